/- What the proof of this claim needs: part MA. No conditions. -/
import Derived.RangeFuncLeaves
import Derived.OrdersIn
import Derived.Below
import Derived.Laws.CopyRow
import Derived.Laws.Append
import Derived.Laws.AppendOwn
import Derived.Laws.MakeOwn
import Derived.RangeFuncRecord
set_option linter.unusedVariables false
set_option linter.unusedSimpArgs false
namespace Go.Ev
open Go
def Ar (P : Program) {α : Type} : Sem α → Option α
 | .pure a => some a
 | .program k => Ar P (k P)
 | .mark _ k => Ar P k
 | _ => none
theorem still_run {P : Program} {α : Type} {s : Sem α} {a : α} (w : World) (h : Ar P s = some a) : s.run P w = .ok a w := by
 induction s with
 | pure b => simp only [Ar, Option.some.injEq] at h; subst h; rfl
 | program k ih => simp only [Ar] at h; simpa [Sem.run] using ih P h
 | mark m k ih => simp only [Ar] at h; simpa [Sem.run] using ih h
 | _ => simp [Ar] at h
def one : Value → Bool
 | .agg _ | .tuple _ => false
 | _ => true
inductive DV where
 | v (x : Value)
 | sl (sz : Nat) (full : Bool) (rows : List (List DV))
 | mp (es : List (Value × Bool × List DV))
 | tab (es : List (Value × Bool × List DV))
 | mn (sz : Nat) (rows : List (List DV))
 deriving Inhabited
inductive AFn where
 | fn (f : Fn)
 | yield (s g : Nat)
 deriving Inhabited
inductive AV where
 | d (x : DV)
 | agg (cs : List AV)
 | tup (vs : List AV)
 | ptr (s g off : Nat)
 | pin (row : List DV) (off : Nat)
 | st (sz : Nat) (rows : List (List DV)) (s g : Nat)
 | hs (s g off len sz : Nat)
 | mp (s g : Nat)
 | fn (f : AFn) (first cap : List AV)
 | ifc (t : TypeId) (a : AV)
 | top
 deriving Inhabited
inductive AO where
 | cells (cs : List AV) (fz : Bool)
 | map (es : List (Value × Bool × List DV)) (fz : Bool)
 | iter (es : List (Value × Bool × List DV)) (seen : List Nat)
 | loop (st : LoopState) (pend : Option Code) (fn : FuncId) (Ap : List AV) (params : List Tmp) (assign body : Code)
 | dead
 deriving Inhabited
structure H where
 objs : List (Nat × Nat × List AO) := []
 toks : List (Nat × Nat) := []
 deriving Inhabited
def Bl (s : Nat) : List (Nat × Nat × List AO) → Nat × List AO
 | [] => (0, [])
 | (t, n, l) :: r => if t == s then (n, l) else Bl s r
def putS (s : Nat) (x : Nat × List AO) : List (Nat × Nat × List AO) → List (Nat × Nat × List AO)
 | [] => [(s, x)]
 | (t, y) :: r => if t == s then (s, x) :: r else if s < t then (s, x) :: (t, y) :: r else (t, y) :: putS s x r
def BV (s : Nat) : List (Nat × Nat) → Nat
 | [] => 0
 | (t, g) :: r => if t == s then g else BV s r
def putT (s g : Nat) : List (Nat × Nat) → List (Nat × Nat)
 | [] => [(s, g)]
 | (t, y) :: r => if t == s then (s, g) :: r else if s < t then (s, g) :: (t, y) :: r else (t, y) :: putT s g r
def H.count (h : H) (s : Nat) : Nat := (Bl s h.objs).1
def H.get (h : H) (s g : Nat) : Option AO :=
 let x := Bl s h.objs
 if g < x.1 then x.2[x.1 - 1 - g]? else none
def H.push (h : H) (s : Nat) (o : AO) : H :=
 let x := Bl s h.objs
 { h with objs := putS s (x.1 + 1, o :: x.2) h.objs }
def H.set (h : H) (s g : Nat) (o : AO) : H :=
 let x := Bl s h.objs
 { h with objs := putS s (x.1, x.2.set (x.1 - 1 - g) o) h.objs }
def H.tok (h : H) (s : Nat) : Nat := BV s h.toks
def H.setTok (h : H) (s g : Nat) : H := { h with toks := putT s g h.toks }
def B7 : AV := .d (.v undef)
def ofV1 : Value → AV
 | .agg cs => .agg (cs.toList.map fun c => .d (.v c))
 | x => .d (.v x)
def ofV : Value → AV
 | .tuple vs => if vs.isEmpty then B7 else .tup (vs.toList.map ofV1)
 | x => ofV1 x
def cellV : AV → Option Value
 | .d (.v x) => some x
 | _ => none
def Ae {α β : Type} (f : α → Option β) : List α → Option (List β)
 | [] => some []
 | a :: r => match f a with
  | none => none
  | some b => match Ae f r with
   | none => none
   | some l => some (b :: l)
def toV : AV → Option Value
 | .d (.v x) => some x
 | .agg cs => match Ae cellV cs with
  | some vs => some (.agg vs.toArray)
  | none => none
 | _ => none
def AX : AV → List AV
 | .agg cs => cs
 | a => [a]
def cellD : AV → Option DV
 | .d (.v x) => if one x then some (.v x) else none
 | .d x => some x
 | .st sz rows _ _ => some (.sl sz false rows)
 | _ => none
inductive PV where
 | one (x : DV)
 | agg (cs : List DV)
 | ifc (t : TypeId) (cs : List DV)
 deriving Inhabited
def isCell : AV → Bool
 | .d (.v x) => one x
 | .agg _ | .tup _ | .top => false
 | _ => true
def toPV : AV → Option PV
 | .agg cs => match Ae cellD cs with
  | some l => some (.agg l)
  | none => none
 | .ifc t (.agg cs) => match Ae cellD cs with
  | some l => some (.ifc t l)
  | none => none
 | a => match cellD a with
  | some x => some (.one x)
  | none => none
def ofPV : PV → AV
 | .one x => .d x
 | .agg cs => .agg (cs.map .d)
 | .ifc t cs => .ifc t (.agg (cs.map .d))
def ofPVs : List PV → AV
 | [x] => ofPV x
 | l => .tup (l.map ofPV)
structure Ctx where
 P : Program
 prim : FuncId → Option (List PV → Option (List PV)) := fun _ => none
 wr : FuncId → Nat → Bool := fun _ _ => false
 nt : FuncId → Nat → Bool := fun _ _ => false
 glob : Nat → Option (List DV) := fun _ => none
 pm : String → Bool := fun _ => false
 quiet : FuncId → Bool := fun _ => false
 clone : FuncId → Option Nat := fun _ => none
 kp : FuncId → Nat → Bool := fun _ _ => false
 np : FuncId → Nat := fun _ => 0
def A1 (fn : FuncId) (t : Nat) : Nat := fn * 8192 + t
def Au (fn : FuncId) : Option Tmp → Nat
 | some t => A1 fn t
 | none => A1 fn 8000
def newObj (h : H) (s : Nat) (o : AO) : AV × H := (.ptr s (h.count s) 0, h.push s o)
variable (C : Ctx)
def isAggT (t : TypeId) : Option Bool :=
 match C.P.underlying t with
 | some (.struct _) | some (.array _ _) => some true
 | some _ => some false
 | none => none
def BL (t : TypeId) : Option Value := match C.P.info? t with | some i => i.zero | none => none
def AR (t : TypeId) : Option Nat := match C.P.info? t with | some i => some i.size | none => none
def bytesT (t : TypeId) : Option Nat := match C.P.info? t with | some i => some i.bytes | none => none
def B5 (o : Oper) (ρ : Operand → AV) : Option AV :=
 if o.op.operands.toList.all fun x => (toV (ρ x)).isSome then
  match Ar C.P (execOp (fun x => (toV (ρ x)).getD undef) o) with
  | some (.value v) => some (ofV v)
  | _ => none
 else none
def BQ (cs : List AV) (off n : Nat) : Option (List AV) := if off + n ≤ cs.length then some ((cs.drop off).take n) else none
def AE (t : TypeId) (cs : List AV) (off : Nat) : Option AV :=
 match isAggT C t, AR C t with
 | some true, some n => match BQ cs off n with
  | some l => some (.agg l)
  | none => none
 | some false, _ => cs[off]?
 | _, _ => none
def AL {α : Type} (cs : List α) (off : Nat) : List α → List α
 | [] => cs
 | x :: r => AL (cs.set off x) (off + 1) r
def aFill (place : Nat → Option (Nat × Nat)) (cells : List AV) : List (Nat × AV) → Option (List AV)
 | [] => some cells
 | (i, a) :: rest =>
  match place i with
  | none => none
  | some (off, size) =>
   if (AX a).length ≠ size ∨ off + size > cells.length ∨ (AX a).all isCell = false then none
   else aFill place (AL cells off (AX a)) rest
def chunk (sz : Nat) : Nat → List DV → List (List DV)
 | 0, _ => []
 | n + 1, l => l.take sz :: chunk sz n (l.drop sz)
def intOfA : AV → Option Int
 | .d (.v (.int _ n)) => some n
 | _ => none
def rowsOf (h : H) : AV → Option (Nat × List (List DV))
 | .d (.sl sz _ rows) => some (sz, rows)
 | .st sz rows _ _ => some (sz, rows)
 | .hs s g off len sz => match h.get s g with
  | some (.cells cs _) => match BQ cs off (len * sz) with
   | some l => match Ae cellD l with
    | some ds => some (sz, chunk sz len ds)
    | none => none
   | none => none
  | _ => none
 | _ => none
def lenA (h : H) : AV → Option Nat
 | .d (.sl _ _ rows) => some rows.length
 | .d (.mn _ rows) => some rows.length
 | .st _ rows _ _ => some rows.length
 | .hs _ _ _ len _ => some len
 | .d (.mp es) => some es.length
 | .mp s g => match h.get s g with
  | some (.map es _) => some es.length
  | _ => none
 | _ => none
def lenOp (t : TypeId) (h : H) (a : AV) : Option Nat :=
 match C.P.underlying t, a with
 | some (.slice _), .d (.sl _ _ rows) => some rows.length
 | some (.slice _), .st _ rows _ _ => some rows.length
 | some (.slice _), .hs _ _ _ len _ => some len
 | some (.map _ _), .d (.mp es) => some es.length
 | some (.map _ _), .mp s g => match h.get s g with
  | some (.map es _) => some es.length
  | _ => none
 | some (.slice _), .d (.mn _ rows) => some rows.length
 | _, _ => none
def loadOp (t : TypeId) (a : AV) (h : H) : Option AV :=
 match a with
 | .ptr s g off => match h.get s g with
  | some (.cells cs _) => AE C t cs off
  | _ => none
 | .pin row off => AE C t (row.map .d) off
 | .d (.v (.pointer (some ⟨b, off, none⟩))) => match C.glob b with
  | some row => AE C t (row.map .d) off
  | none => none
 | _ => none
def storeOp (t : TypeId) (a x : AV) (h : H) : Option H :=
 match a with
 | .ptr s g off => match h.get s g, AR C t with
  | some (.cells cs false), some n =>
   if (AX x).length = n ∧ off + n ≤ cs.length ∧ (AX x).all isCell = true then some (h.set s g (.cells (AL cs off (AX x)) false)) else none
  | _, _ => none
 | _ => none
def addOff : AV → Nat → Option AV
 | .ptr s g off, n => some (.ptr s g (off + n))
 | .pin row off, n => some (.pin row (off + n))
 | .d (.v (.pointer (some ⟨b, off, none⟩))), n => some (.d (.v (.pointer (some ⟨b, off + n, none⟩))))
 | _, _ => none
def fieldAddrOp (t : TypeId) (a : AV) (f : Nat) : Option AV :=
 match C.P.underlying t with
 | some (.struct fs) => match fs[f]? with
  | some fd => match AR C fd.type with
   | some n => if n = 0 then none else addOff a fd.offset
   | none => none
  | none => none
 | _ => none
def BX (t : TypeId) (a i : AV) : Option AV :=
 match intOfA i, C.P.underlying t with
 | some i, some (.array len elem) => match AR C elem with
  | some sz => if 0 ≤ i ∧ i < len then addOff a (i.toNat * sz) else none
  | none => none
 | some i, some (.slice elem) => match AR C elem with
  | some sz => match a with
   | .d (.sl sz' _ rows) | .st sz' rows _ _ =>
    if sz' = sz ∧ 0 ≤ i ∧ i < rows.length then match rows[i.toNat]? with
     | some r => some (.pin r 0)
     | none => none
    else none
   | .hs s g off len sz' => if sz' = sz ∧ 0 ≤ i ∧ i < len then some (.ptr s g (off + i.toNat * sz)) else none
   | .d (.mn sz' rows) =>
    if sz' = sz ∧ 0 ≤ i ∧ i < rows.length then match rows[i.toNat]? with
     | some r => some (.pin r 0)
     | none => none
    else none
   | _ => none
  | none => none
 | _, _ => none
def Bt (ρ : Operand → AV) (dflt : Nat) : Option Operand → Option Nat
 | none => some dflt
 | some x => match intOfA (ρ x) with
  | some n => if 0 ≤ n then some n.toNat else none
  | none => none
def sliceOp (t : TypeId) (a : AV) (ρ : Operand → AV) (lo hi mx : Option Operand) : Option AV :=
 match C.P.underlying t, lenA {} a with
 | some (.slice elem), some n =>
  match Bt ρ 0 lo, Bt ρ n hi, Bt ρ n mx, AR C elem with
  | some l, some hgh, some m, some sz =>
   if l ≤ hgh ∧ hgh ≤ m ∧ m ≤ n ∧ (mx.isSome → hi.isSome) then
    match a with
    | .d (.sl sz' full rows) => if sz' = sz then some (.d (.sl sz ((mx.isSome && decide (m = hgh)) || (full && mx.isNone && decide (hgh = n))) ((rows.drop l).take (hgh - l)))) else none
    | .st sz' rows _ _ => if sz' = sz then some (.d (.sl sz (mx.isSome && decide (m = hgh)) ((rows.drop l).take (hgh - l)))) else none
    | .hs s g off len sz' => if sz' = sz then some (.hs s g (off + l * sz) (hgh - l) sz) else none
    | .d (.mn sz' rows) => if sz' = sz ∧ 0 < rows.length then some (.d (.sl sz (mx.isSome && decide (m = hgh)) ((rows.drop l).take (hgh - l)))) else none
    | _ => none
   else none
  | _, _, _, _ => none
 | _, _ => none
def appArg (sz : Nat) (h : H) (x : AV) : Option (Nat × List (List DV)) :=
 match x with
 | .d (.v (.slice _ 0 _)) => some (sz, [])
 | .d (.mn sz' rows) => some (sz', rows)
 | x => rowsOf h x
def ownNew (st sz by_ : Nat) (cs : List AV) (n : Nat) (more : List (List DV)) (h : H) : Option (AV × H) :=
 if (2 * (n + more.length) + 1000) * by_ ≤ 2 ^ 47 then
  some (.hs st (h.count st) 0 (n + more.length) sz, h.push st (.cells (cs ++ more.flatten.map .d) false))
 else none
def ownAppend (st sz by_ : Nat) (s : AV) (more : List (List DV)) (h : H) : Option (AV × H) :=
 if more.isEmpty then none else
 match s with
 | .d (.v (.slice none 0 0)) => ownNew st sz by_ [] 0 more h
 | .d (.sl sz' true rows) => if sz' = sz then ownNew st sz by_ (rows.flatten.map .d) rows.length more h else none
 | .hs s0 g0 off len sz' => match h.get s0 g0 with
  | some (.cells cs false) => if sz' = sz ∧ off = 0 ∧ 0 < len ∧ cs.length = len * sz then ownNew st sz by_ cs len more (h.set s0 g0 .dead) else none
  | _ => none
 | _ => none
def ntAppend (sz by_ : Nat) (s : AV) (more : List (List DV)) (h : H) : Option (AV × H) :=
 match s with
 | .d (.v (.slice none 0 0)) => if more.isEmpty then some (s, h) else if (2 * more.length + 1000) * by_ ≤ 2 ^ 47 then some (.d (.sl sz false more), h) else none
 | .d (.sl sz' true rows) =>
  if sz' = sz then
   if more.isEmpty then some (s, h) else if (2 * (rows.length + more.length) + 1000) * by_ ≤ 2 ^ 47 then some (.d (.sl sz false (rows ++ more)), h) else none
  else none
 | _ => none
def appendOp (fn : FuncId) (dst : Option Tmp) (t : TypeId) (s x : AV) (h : H) : Option (AV × H) :=
 match C.P.underlying t with
 | some (.slice elem) => match AR C elem, bytesT C elem, BL C elem with
  | some sz, some by_, some z =>
   match appArg sz h x with
   | some (sz1, more) =>
    if sz1 = sz ∧ z.cells.size = sz ∧ 0 < sz ∧ 0 < by_ then
     if C.nt fn (dst.getD 8000) then ntAppend sz by_ s more h else
     if C.wr fn (dst.getD 8000) && !more.isEmpty then ownAppend (Au fn dst) sz by_ s more h else
     let st := Au fn dst
     let grow (rows : List (List DV)) (h : H) : Option (AV × H) :=
      if (2 * (rows.length + more.length) + 1000) * by_ ≤ 2 ^ 47 then
       some (.st sz (rows ++ more) st (h.tok st + 1), h.setTok st (h.tok st + 1))
      else none
     match s with
     | .d (.v (.slice none 0 0)) => if more.isEmpty then some (s, h) else grow [] h
     | .d (.sl sz' true rows) => if sz' = sz then (if more.isEmpty then some (s, h) else grow rows h) else none
     | .st sz' rows s0 g0 => if sz' = sz ∧ h.tok s0 = g0 then grow rows (h.setTok s0 (g0 + 1)) else none
     | _ => none
    else none
   | none => none
  | _, _, _ => none
 | _ => none
def keyAt (t : TypeId) (k : Value) (es : List (Value × Bool × List DV)) : Option (Option (Nat × Bool × List DV)) :=
 match Ar C.P (Instr.findKey t k (es.map fun e => { key := e.1, val := undef, born := 0 })) with
 | some (some (i, _)) => match es[i]? with
  | some e => some (some (i, e.2))
  | none => none
 | some none => some none
 | none => none
def valA (e : Bool × List DV) : Option AV :=
 if e.1 then some (.agg (e.2.map .d)) else
  match e.2 with
  | [x] => some (.d x)
  | _ => none
def Bv (t : TypeId) (es : List (Value × Bool × List DV)) (k : AV) (ok : Bool) : Option AV :=
 match C.P.underlying t, toV k with
 | some (.map kt et), some kv =>
  match Ar C.P (Instr.checkKey es.isEmpty 10000 kt kv), keyAt C kt kv es with
  | some _, some (some (_, ds)) => match valA ds with
   | some a => some (if ok then .tup [a, .d (.v (.bool true))] else a)
   | none => none
  | some _, some none => match BL C et with
   | some z => some (if ok then .tup [ofV1 z, .d (.v (.bool false))] else ofV1 z)
   | none => none
  | _, _ => none
 | _, _ => none
def entryA (es : List (Value × Bool × List DV)) (i : Nat) : Option AV :=
 match es[i]? with
 | some e => match valA e.2 with
  | some a => some (.tup [ofV1 e.1, a])
  | none => none
 | none => none
def mapEs (h : H) : AV → Option (List (Value × Bool × List DV))
 | .d (.mp es) => some es
 | .d (.v (.map none)) => some []
 | .mp s g => match h.get s g with
  | some (.map es _) => some es
  | _ => none
 | _ => none
def tabIn (t : TypeId) (m k : AV) (ok : Bool) : Option AV :=
 match m, k, C.P.underlying t with
 | .d (.tab es), .d (.v (.int .i64 n)), some (.map kt _) => match C.P.underlying kt with
  | some (.int _) => Bv C t es (.d (.v (.int .i64 n))) ok
  | _ => none
 | _, _, _ => none
def isAggA : AV → Bool
 | .agg _ => true
 | _ => false
def updateOp (t : TypeId) (m k x : AV) (h : H) : Option H :=
 match m, C.P.underlying t, toV k, Ae cellD (AX x) with
 | .mp s g, some (.map kt _), some kv, some ds =>
  match h.get s g with
  | some (.map es false) =>
   match Ar C.P (Instr.checkKey false 10000 kt kv), keyAt C kt kv es with
   | some _, some none => some (h.set s g (.map (es ++ [(kv, isAggA x, ds)]) false))
   | some _, some (some (i, _)) => match es[i]? with
    | some e => if Instr.sameBits 10000 e.1 kv then some (h.set s g (.map (es.set i (kv, isAggA x, ds)) false)) else none
    | none => none
   | _, _ => none
  | _ => none
 | _, _, _, _ => none
def BM : AV → Option Bool
 | .d (.sl ..) | .d (.mp _) | .st .. | .hs .. | .mp .. | .fn .. | .ptr .. | .pin .. => some false
 | .d (.v (.slice none 0 0)) | .d (.v (.map none)) | .d (.v .nilFunc) | .d (.v (.pointer none)) => some true
 | _ => none
def nilKind : TypeDesc → AV → Bool
 | .slice _, .d (.sl ..) | .slice _, .st .. | .slice _, .hs .. | .slice _, .d (.v (.slice none 0 0)) => true
 | .map _ _, .d (.mp _) | .map _ _, .mp .. | .map _ _, .d (.v (.map none)) => true
 | .func _ _ _, .fn .. | .func _ _ _, .d (.v .nilFunc) => true
 | .pointer _, .ptr .. | .pointer _, .pin .. | .pointer _, .d (.v (.pointer none)) => true
 | _, _ => false
def eqNil (t : TypeId) (x y : AV) : Option Bool :=
 match C.P.underlying t, BM x, BM y with
 | some td, some true, some b => if nilKind td x && nilKind td y then some b else none
 | some td, some b, some true => if nilKind td x && nilKind td y then some b else none
 | _, _, _ => none
def freeze0 (h : H) : AV → Option (PV × H)
 | .hs s g off len sz => match h.get s g, rowsOf h (.hs s g off len sz) with
  | some (.cells cs _), some (_, rows) => some (.one (.sl sz false rows), h.set s g (.cells cs true))
  | _, _ => none
 | .mp s g => match h.get s g with
  | some (.map es _) => some (.one (.mp es), h.set s g (.map es true))
  | _ => none
 | a => match toPV a with
  | some p => some (p, h)
  | none => none
def freezeCs : H → List AV → Option (List DV × H)
 | h, [] => some ([], h)
 | h, a :: r => match freeze0 h a with
  | some (.one x, h1) => match freezeCs h1 r with
   | some (l, h2) => some (x :: l, h2)
   | none => none
  | _ => none
def freeze1 (h : H) (a : AV) : Option (PV × H) :=
 match freeze0 h a with
 | some r => some r
 | none => match a with
  | .agg cs => match freezeCs h cs with
   | some (ds, h1) => some (.agg ds, h1)
   | none => none
  | _ => none
def Ba (h : H) : List AV → Option (List PV × H)
 | [] => some ([], h)
 | a :: r => match freeze1 h a with
  | none => none
  | some (p, h1) => match Ba h1 r with
   | none => none
   | some (ps, h2) => some (p :: ps, h2)
def scalarP : PV → Bool
 | .one (.v _) => true
 | _ => false
def scalarR (rs : List PV) : Bool := rs.all scalarP
def BO : AV → Option (AFn × List AV × List AV)
 | .d (.v (.func f first cap)) => some (.fn f, first.toList.map ofV1, cap.toList.map ofV1)
 | .fn f first cap => some (f, first, cap)
 | _ => none
def methA (a : AV) (name : String) : Option (FuncId × AV) :=
 let row (t : TypeId) (x : AV) : Option (FuncId × AV) :=
  match C.P.info? t, C.P.underlying t with
  | some i, some u => match i.methods.find? (·.name == name) with
   | some m => match m.path.toList, m.func, u with
    | [], some (f, true), .pointer _ => some (f, x)
    | [], some (f, false), .struct _ => some (f, x)
    | _, _, _ => none
   | none => none
  | _, _ => none
 match a with
 | .ifc t x => row t x
 | .d (.v (.iface t v)) => row t (ofV1 v)
 | _ => none
def aPart (t : TypeId) (cs : List AV) (off : Nat) : Option AV :=
 match isAggT C t, AR C t with
 | some true, some n => match BQ cs off n with
  | some l => some (.agg l)
  | none => none
 | some false, _ => cs[off]?
 | _, _ => none
def clearOp (elem : TypeId) (s g off len sz : Nat) (h : H) : Option (AV × H) :=
 if len = 0 then some (.d (.v (.tuple #[])), h) else
 match h.get s g, BL C elem with
 | some (.cells cs false), some z =>
  if z.cells.size = sz ∧ off + len * sz ≤ cs.length ∧ z.cells.all one then
   some (.d (.v (.tuple #[])), h.set s g (.cells (AL cs off ((List.replicate len (z.cells.toList.map fun c => AV.d (.v c))).flatten)) false))
  else none
 | _, _ => none
def cloneRows (st sz sz' : Nat) (rows : List (List DV)) (h : H) : Option (AV × H) :=
 if sz' = sz ∧ 0 < sz ∧ rows.length < 2 ^ 30 then
  if rows.isEmpty then some (.d (.sl sz true []), h)
  else some (.hs st (h.count st) 0 rows.length sz, h.push st (.cells (rows.flatten.map .d) false))
 else none
def cloneOp (st sz : Nat) (a : AV) (h : H) : Option (AV × H) := match a with
 | .d (.v (.slice none 0 0)) => some (a, h)
 | .d (.sl sz' _ rows) => cloneRows st sz sz' rows h
 | .st sz' rows _ _ => cloneRows st sz sz' rows h
 | _ => none
def putFast {α : Type} : List α → Nat → List α → List α
 | [], _, _ => []
 | c :: cs, 0, xs => match xs with
  | [] => c :: cs
  | x :: r => x :: putFast cs 0 r
 | c :: cs, off + 1, xs => c :: putFast cs off xs
theorem putCells_nil {α : Type} : ∀ (xs : List α) (off : Nat), AL [] off xs = []
 | [], _ => rfl
 | x :: r, off => by simp only [AL, List.set_nil]; exact putCells_nil r _
theorem putCells_shift {α : Type} (a : α) : ∀ (r l : List α) (off : Nat), AL (a :: l) (off + 1) r = a :: AL l off r
 | [], l, off => rfl
 | x :: r, l, off => by simp only [AL, List.set_cons_succ]; exact putCells_shift a r _ _
theorem putFast_eq {α : Type} : ∀ (cs : List α) (off : Nat) (xs : List α), putFast cs off xs = AL cs off xs
 | [], off, xs => (putCells_nil xs off).symm
 | c :: cs, 0, [] => rfl
 | c :: cs, 0, x :: r => by
  simp only [putFast, AL, List.set_cons_zero]
  rw [putCells_shift, putFast_eq cs 0 r]
 | c :: cs, off + 1, xs => by
  rw [putCells_shift, ← putFast_eq cs off xs]
  simp only [putFast]
def copyOp (elem : TypeId) (s g off len sz : Nat) (x : AV) (h : H) : Option (AV × H) :=
 match appArg sz h x, AR C elem with
 | some (sz1, more), some n =>
  if sz1 = sz ∧ n = sz ∧ 0 < sz then
   if Nat.min more.length len = 0 then some (.d (.v (.int .i64 0)), h) else
   match h.get s g with
   | some (.cells cs false) =>
    if off + Nat.min more.length len * sz ≤ cs.length then
     some (.d (.v (.int .i64 (Nat.min more.length len))), h.set s g (.cells (putFast cs off ((more.take (Nat.min more.length len)).flatten.map .d)) false))
    else none
   | _ => none
  else none
 | _, _ => none
def AA (fn : FuncId) (o : Oper) (ρ : Operand → AV) (h : H) : Option (AV × H) :=
 let pure1 (a : Option AV) : Option (AV × H) := match a with | some a => some (a, h) | none => none
 let skip (h' : Option H) : Option (AV × H) := match h' with | some h' => some (B7, h') | none => none
 match o.op with
 | .move x | .assign x => some (ρ x, h)
 | .pick c a b => match ρ c with
  | .d (.v (.bool t)) => some (if t then ρ a else ρ b, h)
  | _ => none
 | .alloc t => match BL C t with
  | some z => some (newObj h (Au fn o.dst) (.cells (z.cells.toList.map fun c => .d (.v c)) false))
  | none => none
 | .box t x => if (AX (ρ x)).all isCell then some (newObj h (Au fn o.dst) (.cells (AX (ρ x)) false)) else none
 | .build t parts => match BL C t, C.P.underlying t with
  | some z, some (.struct fs) =>
   match Ae (fun (f : Field) => match AR C f.type with | some n => some (f.offset, n) | none => none) fs.toList with
   | some places => match aFill (places[·]?) (z.cells.toList.map fun c => .d (.v c)) (parts.toList.map fun p => (p.1, ρ p.2)) with
    | some cs => some (.agg cs, h)
    | none => none
   | none => none
  | some z, some (.array _ elem) => match AR C elem with
   | some n => match aFill (fun i => some (i * n, n)) (z.cells.toList.map fun c => .d (.v c)) (parts.toList.map fun p => (p.1, ρ p.2)) with
    | some cs => some (.agg cs, h)
    | none => none
   | none => none
  | _, _ => none
 | .buildSlice t len parts => match C.P.underlying t with
  | some (.slice elem) => match AR C elem, BL C elem with
   | some n, some z =>
    if 0 < n ∧ z.cells.size = n ∧ len * n ≤ 2 ^ 20 then
     match aFill (fun i => some (i * n, n)) ((List.replicate len (z.cells.toList.map fun c => AV.d (.v c))).flatten) (parts.toList.map fun p => (p.1, ρ p.2)) with
     | some cs =>
      if C.wr fn (o.dst.getD 8000) then some (.hs (Au fn o.dst) (h.count (Au fn o.dst)) 0 len n, h.push (Au fn o.dst) (.cells cs false))
      else match Ae cellD cs with
       | some ds => some (.d (.sl n true (chunk n len ds)), h)
       | none => none
     | none => none
    else none
   | _, _ => none
  | _ => none
 | .load t a => pure1 (loadOp C t (ρ a) h)
 | .store t a x => skip (storeOp C t (ρ a) (ρ x) h)
 | .nilCheck x => match ρ x with
  | .ptr s g off => some (.ptr s g off, h)
  | .pin r off => some (.pin r off, h)
  | .fn f a b => match f with
   | .fn (.func _) => some (.fn f a b, h)
   | .yield _ _ => some (.fn f a b, h)
   | _ => none
  | _ => pure1 (B5 C o ρ)
 | .binOp op t x y _ => match B5 C o ρ with
  | some a => some (a, h)
  | none => match op with
   | .eql => match eqNil C t (ρ x) (ρ y) with
    | some b => some (.d (.v (.bool b)), h)
    | none => none
   | .neq => match eqNil C t (ρ x) (ρ y) with
    | some b => some (.d (.v (.bool !b)), h)
    | none => none
   | _ => none
 | .slice t x lo hi mx => match sliceOp C t (ρ x) ρ lo hi mx with
  | some a => some (a, h)
  | none => pure1 (B5 C o ρ)
 | .fieldAddr t x f => pure1 (fieldAddrOp C t (ρ x) f)
 | .indexAddr t x i => pure1 (BX C t (ρ x) (ρ i))
 | .field t x f => match ρ x, C.P.underlying t with
  | .agg cs, some (.struct fs) => match fs[f]? with
   | some fd => pure1 (aPart C fd.type cs fd.offset)
   | none => none
  | _, _ => none
 | .index t x i => match ρ x, C.P.underlying t, intOfA (ρ i) with
  | .agg cs, some (.array len elem), some i => match AR C elem with
   | some n => if 0 ≤ i ∧ i < len then pure1 (aPart C elem cs (i.toNat * n)) else none
   | none => none
  | _, _, _ => pure1 (B5 C o ρ)
 | .extract x ix => match ρ x with
  | .tup vs => pure1 (vs[ix]?)
  | _ => none
 | .makeFunc f first cap => some (.fn (.fn f) (first.toList.map ρ) (cap.toList.map ρ), h)
 | .makeMap t r => match r with
  | none => some (.mp (Au fn o.dst) (h.count (Au fn o.dst)), h.push (Au fn o.dst) (.map [] false))
  | some _ => none
 | .lookup t m k ok => match mapEs h (ρ m) with
  | some es => pure1 (Bv C t es (ρ k) ok)
  | none => pure1 (tabIn C t (ρ m) (ρ k) ok)
 | .range t x => match C.P.underlying t, ρ x with
  | some (.map _ _), .d (.mp es) => some (newObj h (Au fn o.dst) (.iter es []))
  | _, _ => none
 | .entry it => match ρ it with
  | .ptr s g 0 => match h.get s g with
   | some (.iter es (i :: _)) => pure1 (entryA es i)
   | _ => none
  | _ => none
 | .mapUpdate t m k x | .insert t m k x => skip (updateOp C t (ρ m) (ρ k) (ρ x) h)
 | .makeSlice t l c => match C.P.underlying t, intOfA (ρ l), intOfA (ρ c) with
  | some (.slice elem), some l, some c => match AR C elem, bytesT C elem, BL C elem with
   | some n, some by_, some z =>
    if 0 ≤ l ∧ l = c ∧ l * by_ ≤ 2 ^ 40 ∧ l ≤ 2 ^ 40 ∧ 0 < n ∧ z.cells.size = n then
     some (.hs (Au fn o.dst) (h.count (Au fn o.dst)) 0 l.toNat n,
      h.push (Au fn o.dst) (.cells ((List.replicate l.toNat (z.cells.toList.map fun c => AV.d (.v c))).flatten) false))
    else none
   | _, _, _ => none
  | _, _, _ => none
 | .call c => match c.callee with
  | .builtin .len => match c.args.toList, c.argTypes.toList with
   | [x], t :: _ => match lenOp C t h (ρ x) with
    | some n => some (.d (.v (.int .i64 n)), h)
    | none => pure1 (B5 C o ρ)
   | _, _ => none
  | .builtin .append => match c.args.toList, c.argTypes.toList with
   | [s, x], [t, u] => match C.P.underlying u with
    | some (.slice _) => appendOp C fn o.dst t (ρ s) (ρ x) h
    | _ => none
   | _, _ => none
  | .builtin .clear => match c.args.toList, c.argTypes.toList with
   | [x], [t] => match C.P.underlying t, ρ x with
    | some (.slice elem), .hs s g off len sz => clearOp C elem s g off len sz h
    | _, _ => pure1 (B5 C o ρ)
   | _, _ => none
  | .builtin .copy => match c.args.toList, c.argTypes.toList with
   | [d, x], [t, u] => match C.P.underlying t, C.P.underlying u, ρ d with
    | some (.slice elem), some (.slice _), .hs s g off len sz => copyOp C elem s g off len sz (ρ x) h
    | _, _, _ => none
   | _, _ => none
  | .builtin _ => pure1 (B5 C o ρ)
  | .value f => match BO (ρ f) with
   | some (.fn (.func g), first, cap) => match C.prim g with
    | some spec => match Ba h (first ++ c.args.toList.map ρ ++ cap) with
     | some (ps, h1) => match spec ps with
      | some rs => some (ofPVs rs, if scalarR rs then h else h1)
      | none => none
     | none => none
    | none => match C.clone g, first, cap, c.args.toList with
     | some sz, [], [], [x] => cloneOp (Au fn o.dst) sz (ρ x) h
     | _, _, _, _ => none
   | _ => none
  | .invoke rv m => match methA C (ρ rv) m with
   | some (g, recv) => match C.prim g with
    | some spec => match Ba h (recv :: c.args.toList.map ρ) with
     | some (ps, h1) => match spec ps with
      | some rs => some (ofPVs rs, if scalarR rs then h else h1)
      | none => none
     | none => none
    | none => none
   | none => none
 | .makeInterface t x => match B5 C o ρ with
  | some a => some (a, h)
  | none => match C.P.underlying t with
   | some (.struct _) => some (.ifc t (ρ x), h)
   | _ => none
 | .typeAssert x _ asserted ok => match ρ x with
  | .ifc t a => match C.P.underlying asserted with
   | some (.struct _) =>
    if t = asserted then some (if ok then .tup [a, .d (.v (.bool true))] else a, h)
    else if ok then match BL C asserted with
     | some z => some (.tup [ofV1 z, .d (.v (.bool false))], h)
     | none => none
    else none
   | _ => none
  | _ => pure1 (B5 C o ρ)
 | .select _ _ | .go _ | .defer _ => none
 | _ => pure1 (B5 C o ρ)
abbrev A8 := List (List DV)
abbrev AC := List (Nat × Nat)
end Go.Ev
namespace Go.Ev
open Go Go.RowKit
structure Gh where
 J : Nat → Nat → Option Nat
 T : Nat → Nat → Option (Nat × Nat × Nat × Nat)
 F : Nat → Nat → Prop
 Z : Nat → Nat
abbrev Bn (b o : Nat) : Addr := ⟨b, o, none⟩
def Born (ms : Array MapEntry) (clock : Nat) : Prop :=
 (∀ (i : Nat) (m : MapEntry), ms[i]? = some m → m.born < clock) ∧ ∀ (i j : Nat) (m n : MapEntry), ms[i]? = some m → ms[j]? = some n → m.born = n.born → i = j
def bornAt (ms : Array MapEntry) (i : Nat) : Nat := match ms[i]? with
 | some m => m.born
 | none => 0
inductive RD (F : Nat → Nat → Prop) (w : World) : DV → Value → Prop
 | v (x : Value) (h : one x = true) : RD F w (.v x) x
 | sl (sz : Nat) (full : Bool) (rows : A8) (b o len cap : Nat) (xs : Nat → Nat → Value) (hlen : len = rows.length) (hcap : len ≤ cap)
   (hfull : full = true → cap = len) (hsz : ∀ (i : Nat) (r : List DV), rows[i]? = some r → r.length = sz)
   (hc : ∀ (i j : Nat) (r : List DV), rows[i]? = some r → j < sz → w.cell? (Bn b (o + i * sz + j)) = some (xs i j) ∧ F b (o + i * sz + j))
   (hr : ∀ (i j : Nat) (r : List DV) (y : DV), rows[i]? = some r → r[j]? = some y → RD F w y (xs i j)) : RD F w (.sl sz full rows) (.slice (some (Bn b o)) len cap)
 | mp (es : List (Value × Bool × List DV)) (b : Nat) (ms : Array MapEntry) (clock : Nat) (xs : Nat → Nat → Value) (hb : w.heap[b]? = some (.map ms clock)) (hF : F b 0)
   (hl : es.length = ms.size)
   (he : ∀ (i : Nat) (e : Value × Bool × List DV) (m : MapEntry), es[i]? = some e → ms[i]? = some m → m.key = e.1 ∧ (e.2.1 = true → ∃ vs, m.val = .agg vs) ∧ (e.2.1 = false → one m.val = true) ∧ m.val.cells.size = e.2.2.length ∧ ∀ j : Nat, j < e.2.2.length → m.val.cells[j]? = some (xs i j))
   (hr : ∀ (i : Nat) (e : Value × Bool × List DV) (j : Nat) (y : DV), es[i]? = some e → e.2.2[j]? = some y → RD F w y (xs i j)) (hw : Born ms clock) : RD F w (.mp es) (.map (some b))
 | tab (es es' : List (Value × Bool × List DV)) (b : Nat) (hp : es'.Perm es) (hk : ∀ e ∈ es, ∃ n : Int, e.1 = .int .i64 n) (hn : (es.map (·.1)).Nodup) (h : RD F w (.mp es') (.map (some b))) : RD F w (.tab es) (.map (some b))
 | mn0 (sz : Nat) : RD F w (.mn sz []) (.slice none 0 0)
 | mne (sz : Nat) (a : Addr) (cap : Nat) : RD F w (.mn sz []) (.slice (some a) 0 cap)
 | mn (sz : Nat) (rows : A8) (v : Value) (h : RD F w (.sl sz false rows) v) : RD F w (.mn sz rows) v
inductive RA (gh : Gh) (w : World) : AV → Value → Prop
 | v (x : Value) : RA gh w (.d (.v x)) x
 | d (y : DV) (x : Value) (h : RD gh.F w y x) : RA gh w (.d y) x
 | agg (cs : List AV) (vs : List Value) (hl : cs.length = vs.length) (hr : ∀ (i : Nat) (a : AV) (x : Value), cs[i]? = some a → vs[i]? = some x → RA gh w a x) : RA gh w (.agg cs) (.agg vs.toArray)
 | tup (cs : List AV) (vs : List Value) (hl : cs.length = vs.length) (hr : ∀ (i : Nat) (a : AV) (x : Value), cs[i]? = some a → vs[i]? = some x → RA gh w a x) : RA gh w (.tup cs) (.tuple vs.toArray)
 | ptr (s g off b : Nat) (h : gh.J s g = some b) : RA gh w (.ptr s g off) (.pointer (some (Bn b off)))
 | pin (row : List DV) (off b o : Nat) (xs : Nat → Value) (hc : ∀ j : Nat, j < row.length → w.cell? (Bn b (o + j)) = some (xs j) ∧ gh.F b (o + j))
   (hr : ∀ (j : Nat) (y : DV), row[j]? = some y → RD gh.F w y (xs j)) : RA gh w (.pin row off) (.pointer (some (Bn b (o + off))))
 | st (sz : Nat) (rows : A8) (s g b len cap : Nat) (h : RD gh.F w (.sl sz false rows) (.slice (some (Bn b 0)) len cap)) (ht : gh.T s g = some (b, len, cap, sz)) :
   RA gh w (.st sz rows s g) (.slice (some (Bn b 0)) len cap)
 | hs (s g off len sz b o cap : Nat) (h : gh.J s g = some b) (hcap : len ≤ cap) (ho : 0 < len → o = off) (hz : o + cap * sz ≤ gh.Z b) : RA gh w (.hs s g off len sz) (.slice (some (Bn b o)) len cap)
 | mp (s g b : Nat) (h : gh.J s g = some b) : RA gh w (.mp s g) (.map (some b))
 | fn (f : Fn) (as cs : List AV) (avs cvs : List Value) (hl : as.length = avs.length) (hl' : cs.length = cvs.length)
   (hr : ∀ (i : Nat) (a : AV) (x : Value), as[i]? = some a → avs[i]? = some x → RA gh w a x) (hr' : ∀ (i : Nat) (a : AV) (x : Value), cs[i]? = some a → cvs[i]? = some x → RA gh w a x) :
   RA gh w (.fn (.fn f) as cs) (.func f avs.toArray cvs.toArray)
 | yield (s g b : Nat) (h : gh.J s g = some b) : RA gh w (.fn (.yield s g) [] []) (.func (.yield b) #[] #[])
 | ifc (t : TypeId) (a : AV) (x : Value) (h : RA gh w a x) : RA gh w (.ifc t a) (.iface t x)
 | top (x : Value) : RA gh w .top x
def Bj (w w' : World) (b o : Nat) : Prop :=
 w'.cell? (Bn b o) = w.cell? (Bn b o) ∧ ∀ es c, w.heap[b]? = some (.map es c) → w'.heap[b]? = some (.map es c)
structure GLe (gh gh' : Gh) : Prop where
 J : ∀ s g b, gh.J s g = some b → gh'.J s g = some b
 T : ∀ s g x, gh.T s g = some x → gh'.T s g = some x
 F : ∀ b o, gh.F b o → gh'.F b o
 Z : ∀ s g b, gh.J s g = some b → gh'.Z b = gh.Z b
theorem GLe.refl (gh : Gh) : GLe gh gh := ⟨fun _ _ _ h => h, fun _ _ _ h => h, fun _ _ h => h, fun _ _ _ _ => rfl⟩
theorem GLe.trans {a b c : Gh} (h : GLe a b) (k : GLe b c) : GLe a c :=
 ⟨fun s g x e => k.J s g x (h.J s g x e), fun s g x e => k.T s g x (h.T s g x e), fun x o e => k.F x o (h.F x o e), fun s g x e => (k.Z s g x (h.J s g x e)).trans (h.Z s g x e)⟩
structure Stp (B : Nat) (gh : Gh) (w : World) (gh' : Gh) (w' : World) : Prop where
 below : Below B w w'
 le : GLe gh gh'
 same : ∀ b o, gh.F b o → Bj w w' b o
 new : ∀ b o, gh'.F b o → b < B → gh.F b o
theorem Stp.refl (B : Nat) (gh : Gh) (w : World) : Stp B gh w gh w := ⟨.refl _ _, .refl _, fun _ _ _ => ⟨rfl, fun _ _ h => h⟩, fun _ _ h _ => h⟩
theorem Stp.trans {B : Nat} {g1 g2 g3 : Gh} {w1 w2 w3 : World} (h : Stp B g1 w1 g2 w2) (k : Stp B g2 w2 g3 w3) : Stp B g1 w1 g3 w3 :=
 ⟨h.below.trans k.below, h.le.trans k.le, fun b o hF => by
  obtain ⟨h1, h2⟩ := h.same b o hF
  obtain ⟨k1, k2⟩ := k.same b o (h.le.F b o hF)
  exact ⟨k1.trans h1, fun es c e => k2 es c (h2 es c e)⟩, fun b o e hb => h.new b o (k.new b o e hb) hb⟩
theorem RD.mono {F F' : Nat → Nat → Prop} {w w' : World} (hF : ∀ b o, F b o → F' b o) (hs : ∀ b o, F b o → Bj w w' b o) {y : DV} {x : Value} (h : RD F w y x) : RD F' w' y x := by
 induction h with
 | v x h => exact .v x h
 | sl sz full rows b o len cap xs hlen hcap hfull hsz hc hr ih =>
  exact .sl sz full rows b o len cap xs hlen hcap hfull hsz (fun i j r e hj => by
   obtain ⟨h1, h2⟩ := hc i j r e hj
   exact ⟨(hs _ _ h2).1.trans h1, hF _ _ h2⟩) ih
 | mp es b ms clock xs hb hFb hl he hr hw ih =>
  exact .mp es b ms clock xs ((hs _ _ hFb).2 _ _ hb) (hF _ _ hFb) hl he ih hw
 | tab es es' b hp hk hn h ih => exact .tab es es' b hp hk hn ih
 | mn0 sz => exact .mn0 sz
 | mne sz a cap => exact .mne sz a cap
 | mn sz rows v h ih => exact .mn sz rows v ih
theorem RA.mono {B : Nat} {gh gh' : Gh} {w w' : World} (k : Stp B gh w gh' w') {a : AV} {x : Value} (h : RA gh w a x) : RA gh' w' a x := by
 induction h with
 | v x => exact .v x
 | d y x h => exact .d y x (h.mono k.le.F k.same)
 | agg cs vs hl hr ih => exact .agg cs vs hl ih
 | tup cs vs hl hr ih => exact .tup cs vs hl ih
 | ptr s g off b h => exact .ptr s g off b (k.le.J _ _ _ h)
 | pin row off b o xs hc hr =>
  exact .pin row off b o xs (fun j hj => by
   obtain ⟨h1, h2⟩ := hc j hj
   exact ⟨(k.same _ _ h2).1.trans h1, k.le.F _ _ h2⟩) (fun j y e => (hr j y e).mono k.le.F k.same)
 | st sz rows s g b len cap h ht => exact .st sz rows s g b len cap (h.mono k.le.F k.same) (k.le.T _ _ _ ht)
 | hs s g off len sz b o cap h hcap ho hz => exact .hs s g off len sz b o cap (k.le.J _ _ _ h) hcap ho (by rw [k.le.Z _ _ _ h]; exact hz)
 | mp s g b h => exact .mp s g b (k.le.J _ _ _ h)
 | fn f as cs avs cvs hl hl' hr hr' ih ih' => exact .fn f as cs avs cvs hl hl' ih ih'
 | yield s g b h => exact .yield s g b (k.le.J _ _ _ h)
 | ifc t a x h ih => exact .ifc t a x ih
 | top x => exact .top x
def RL (gh : Gh) (w : World) (as : List AV) (vs : List Value) : Prop := as.length = vs.length ∧ ∀ (i : Nat) (a : AV) (x : Value), as[i]? = some a → vs[i]? = some x → RA gh w a x
theorem RL.mono {B : Nat} {gh gh' : Gh} {w w' : World} (k : Stp B gh w gh' w') {as : List AV} {vs : List Value} (h : RL gh w as vs) : RL gh' w' as vs :=
 ⟨h.1, fun i a x ha hx => (h.2 i a x ha hx).mono k⟩
def ORel (gh : Gh) (w : World) (b : Nat) : AO → Prop
 | .cells cs fz => ∃ (vs tail : List Value) (elem : TypeId), w.heap[b]? = some (.cells (vs ++ tail).toArray elem (0, 0)) ∧ (vs ++ tail).length = gh.Z b ∧ RL gh w cs vs ∧ (fz = false → ∀ o, ¬ gh.F b o)
 | .dead => (w.heap[b]?).isSome = true
 | .map es fz => ∃ (ms : Array MapEntry) (clock : Nat) (xs : Nat → Nat → Value), w.heap[b]? = some (.map ms clock) ∧ es.length = ms.size ∧ (fz = false → ∀ o, ¬ gh.F b o) ∧
   (∀ (i : Nat) (e : Value × Bool × List DV) (m : MapEntry), es[i]? = some e → ms[i]? = some m → m.key = e.1 ∧ (e.2.1 = true → ∃ vs, m.val = .agg vs) ∧ (e.2.1 = false → one m.val = true) ∧ m.val.cells.size = e.2.2.length ∧ ∀ j : Nat, j < e.2.2.length → m.val.cells[j]? = some (xs i j)) ∧
   (∀ (i : Nat) (e : Value × Bool × List DV) (j : Nat) (y : DV), es[i]? = some e → e.2.2[j]? = some y → RD gh.F w y (xs i j)) ∧ Born ms clock
 | .iter es seen => ∃ (mb : Nat) (ms : Array MapEntry) (clock : Nat), w.heap[b]? = some (.mapIter (some mb) clock (seen.reverse.map (bornAt ms)).toArray clock) ∧ (∀ o, ¬ gh.F b o) ∧ (∀ i ∈ seen, i < es.length) ∧
   w.heap[mb]? = some (.map ms clock) ∧ gh.F mb 0 ∧ RD gh.F w (.mp es) (.map (some mb))
 | .loop st pend fn Ap params assign body => ∃ (tmps : List Value) (ds : Nat), (∀ o, ¬ gh.F b o) ∧
   ∃ fn', w.heap[b]? = some (.loop { state := st, pending := pend, fn := fn', tmps := tmps.toArray, params := params.toArray, assign := assign, body := body, defers := ds }) ∧ RL gh w Ap tmps
def TRel (gh : Gh) (B : Nat) (w : World) (t : Nat × Nat × Nat × Nat) : Prop :=
 B ≤ t.1 ∧ ∃ (vs : Array Value) (elem : TypeId), w.heap[t.1]? = some (.cells vs elem (0, 0)) ∧ t.2.2.1 * t.2.2.2 ≤ vs.size ∧
  ∀ off, t.2.1 * t.2.2.2 ≤ off → ¬ gh.F t.1 off
structure Inv (C : Ctx) (B : Nat) (K : List Nat) (gh : Gh) (h : H) (w : World) : Prop where
 size : B ≤ w.heap.size
 dom : ∀ s g b, gh.J s g = some b → ∃ o, h.get s g = some o ∧ B ≤ b ∧ ORel gh w b o
 back : ∀ s g o, h.get s g = some o → ∃ b, gh.J s g = some b
 inj : ∀ s g s' g' b, gh.J s g = some b → gh.J s' g' = some b → h.get s g ≠ some .dead → h.get s' g' ≠ some .dead → s = s' ∧ g = g'
 tok : ∀ s t, gh.T s (h.tok s) = some t → TRel gh B w t ∧ (∀ s' g', gh.J s' g' ≠ some t.1) ∧ t.1 ∉ K
 tinj : ∀ s s' t t', gh.T s (h.tok s) = some t → gh.T s' (h.tok s') = some t' → t.1 = t'.1 → s = s'
 tfresh : ∀ s g, h.tok s < g → gh.T s g = none
 kept : ∀ D ∈ K, B ≤ D ∧ w.heap[D]? = some (.deferred (some [])) ∧ (∀ s g, gh.J s g ≠ some D)
 glob : ∀ (g : Nat) (row : List DV), C.glob g = some row → ∀ (j : Nat) (y : DV), row[j]? = some y → ∃ x, w.cell? (Bn g j) = some x ∧ gh.F g j ∧ RD gh.F w y x
 fsize : ∀ b o, gh.F b o → b < w.heap.size
end Go.Ev
namespace Go.Ev
open Go Go.RowKit
theorem Cc (s : Nat) (x : Nat × List AO) (l : List (Nat × Nat × List AO)) : Bl s (putS s x l) = x := by
 induction l with
 | nil => simp [putS, Bl]
 | cons y r ih =>
  obtain ⟨t, n, ll⟩ := y
  simp only [putS]
  by_cases h : t = s
  ·simp [h, Bl]
  ·by_cases h2 : s < t
   ·simp [h, h2, Bl]
   ·simp [h, h2, Bl, ih]
theorem AG (s s' : Nat) (x : Nat × List AO) (l : List (Nat × Nat × List AO)) (hn : s' ≠ s) : Bl s' (putS s x l) = Bl s' l := by
 induction l with
 | nil => simp [putS, Bl, Ne.symm hn]
 | cons y r ih =>
  obtain ⟨t, n, ll⟩ := y
  simp only [putS]
  by_cases h : t = s
  ·subst h; simp [Bl, Ne.symm hn]
  ·by_cases h2 : s < t
   ·simp [h, h2, Bl, Ne.symm hn]
   ·simp only [beq_iff_eq, h, h2, if_false, Bl, ih]
theorem lookT_putT_same (s g : Nat) (l : AC) : BV s (putT s g l) = g := by
 induction l with
 | nil => simp [putT, BV]
 | cons y r ih =>
  obtain ⟨t, n⟩ := y
  simp only [putT]
  by_cases h : t = s
  ·simp [h, BV]
  ·by_cases h2 : s < t
   ·simp [h, h2, BV]
   ·simp [h, h2, BV, ih]
theorem lookT_putT_other (s s' g : Nat) (l : AC) (hn : s' ≠ s) : BV s' (putT s g l) = BV s' l := by
 induction l with
 | nil => simp [putT, BV, Ne.symm hn]
 | cons y r ih =>
  obtain ⟨t, n⟩ := y
  simp only [putT]
  by_cases h : t = s
  ·subst h; simp [BV, Ne.symm hn]
  ·by_cases h2 : s < t
   ·simp [h, h2, BV, Ne.symm hn]
   ·simp only [beq_iff_eq, h, h2, if_false, BV, ih]
theorem putS_comm (s t : Nat) (x y : Nat × List AO) (hn : s ≠ t) (l : List (Nat × Nat × List AO)) : putS s x (putS t y l) = putS t y (putS s x l) := by
 induction l with
 | nil => simp only [putS]; grind
 | cons z r ih =>
  obtain ⟨k, n, ll⟩ := z
  simp only [putS]
  grind [putS]
theorem H.push_comm (h : H) (s t : Nat) (x y : AO) (hn : s ≠ t) : (h.push s x).push t y = (h.push t y).push s x := by
 simp only [H.push, AG _ _ _ _ hn, AG _ _ _ _ hn.symm]
 rw [putS_comm _ _ _ _ hn.symm]
theorem H.tok_setTok_same (h : H) (s g : Nat) : (h.setTok s g).tok s = g := lookT_putT_same _ _ _
theorem H.tok_setTok_other (h : H) (s g s' : Nat) (hn : s' ≠ s) : (h.setTok s g).tok s' = h.tok s' := lookT_putT_other _ _ _ _ hn
theorem H.count_push_other (h : H) (s s' : Nat) (o : AO) (hn : s' ≠ s) : (h.push s o).count s' = h.count s' := by simp [H.count, H.push, AG _ _ _ _ hn]
@[simp] theorem H.count_set (h : H) (s g : Nat) (o : AO) (s' : Nat) : (h.set s g o).count s' = h.count s' := by
 by_cases hn : s' = s
 ·subst hn; simp [H.count, H.set, Cc]
 ·simp [H.count, H.set, AG _ _ _ _ hn]
@[simp] theorem H.get_push_same (h : H) (s : Nat) (o : AO) : (h.push s o).get s (h.count s) = some o := by
 simp [H.get, H.push, H.count, Cc]
theorem H.get_push_other (h : H) (s s' g' : Nat) (o : AO) (hn : ¬ (s' = s ∧ g' = h.count s)) : (h.push s o).get s' g' = h.get s' g' := by
 by_cases hs : s' = s
 ·subst hs
  simp only [H.get, H.push, Cc, H.count] at hn ⊢
  by_cases h1 : g' < (Bl s' h.objs).1
  ·have e : (Bl s' h.objs).1 + 1 - 1 - g' = ((Bl s' h.objs).1 - 1 - g') + 1 := by omega
   rw [if_pos (by omega), if_pos h1, e, List.getElem?_cons_succ]
  ·rw [if_neg (by simp at hn; omega), if_neg h1]
 ·simp [H.get, H.push, AG _ _ _ _ hs]
theorem H.get_lt {h : H} {s g : Nat} {o : AO} (e : h.get s g = some o) : g < h.count s := by
 simp only [H.get] at e
 by_cases hg : g < (Bl s h.objs).1
 ·exact hg
 ·simp [hg] at e
theorem H.get_push_old {h : H} {s s' g' : Nat} {o o' : AO} (e : h.get s' g' = some o') : (h.push s o).get s' g' = some o' := by
 rw [H.get_push_other _ _ _ _ _ (by rintro ⟨rfl, rfl⟩; exact absurd (H.get_lt e) (Nat.lt_irrefl _))]; exact e
theorem H.get_set_same {h : H} {s g : Nat} {o o' : AO} (e : h.get s g = some o') : (h.set s g o).get s g = some o := by
 have hg := H.get_lt e
 simp only [H.get, H.set, Cc, H.count] at e hg ⊢
 rw [if_pos hg] at e ⊢
 have := (List.getElem?_eq_some_iff.1 e).1
 rw [List.getElem?_set_self this]
theorem H.get_set_other (h : H) (s g s' g' : Nat) (o : AO) (hg : g < h.count s) (hn : ¬ (s' = s ∧ g' = g)) : (h.set s g o).get s' g' = h.get s' g' := by
 by_cases hs : s' = s
 ·subst hs
  simp only [H.get, H.set, Cc, H.count] at hn hg ⊢
  by_cases h1 : g' < (Bl s' h.objs).1
  ·rw [if_pos h1, if_pos h1, List.getElem?_set_ne (by simp at hn; omega)]
  ·rw [if_neg h1, if_neg h1]
 ·simp [H.get, H.set, AG _ _ _ _ hs]
theorem ORel.mono {B : Nat} {gh gh' : Gh} {w w' : World} (k : Stp B gh w gh' w') {b : Nat} {o : AO} (hb : w'.heap[b]? = w.heap[b]?)
  (hF : ∀ x, gh'.F b x → gh.F b x) (hZ : gh'.Z b = gh.Z b) (h : ORel gh w b o) : ORel gh' w' b o := by
 cases o with
 | cells cs fz =>
  obtain ⟨vs, tl, e, h1, hz, h2, h3⟩ := h
  exact ⟨vs, tl, e, hb.trans h1, hz.trans hZ.symm, h2.mono k, fun hz x hx => h3 hz x (hF x hx)⟩
 | dead => simp only [ORel] at h ⊢; rw [hb]; exact h
 | map es fz =>
  obtain ⟨ms, c, xs, h1, h2, h3, h4, h5, h6⟩ := h
  exact ⟨ms, c, xs, hb.trans h1, h2, fun hz x hx => h3 hz x (hF x hx), h4, fun i e j y he hy => (h5 i e j y he hy).mono k.le.F k.same, h6⟩
 | iter es seen =>
  obtain ⟨mb, ms, c, h1, h2, h3, h4, h5, h6⟩ := h
  exact ⟨mb, ms, c, hb.trans h1, fun x hx => h2 x (hF x hx), h3, (k.same _ _ h5).2 _ _ h4, k.le.F _ _ h5, h6.mono k.le.F k.same⟩
 | loop st pend fn Ap params assign body =>
  obtain ⟨tmps, ds, h0, fn', h1, h2⟩ := h
  exact ⟨tmps, ds, fun x hx => h0 x (hF x hx), fn', hb.trans h1, h2.mono k⟩
theorem TRel.mono {B : Nat} {gh gh' : Gh} {w w' : World} {t : Nat × Nat × Nat × Nat} (hb : w'.heap[t.1]? = w.heap[t.1]?)
  (hF : ∀ x, gh'.F t.1 x → gh.F t.1 x) (h : TRel gh B w t) : TRel gh' B w' t := by
 obtain ⟨h0, vs, e, h1, h2, h3⟩ := h
 exact ⟨h0, vs, e, hb.trans h1, h2, fun x hx hx' => h3 x hx (hF x hx')⟩
structure Grows (w w' : World) (o : Obj) : Prop where
 heap : w'.heap = w.heap.push o
 os : w'.os = w.os
 tape : w'.tape = w.tape
 output : w'.output = w.output
theorem Grows.alloc (w : World) (o : Obj) : Grows w (w.alloc o) o := ⟨rfl, rfl, rfl, rfl⟩
theorem Grows.old {w w' : World} {o : Obj} (h : Grows w w' o) {b : Nat} (hb : b < w.heap.size) : w'.heap[b]? = w.heap[b]? := by
 rw [h.heap, Array.getElem?_push, if_neg (by omega)]
theorem Grows.new {w w' : World} {o : Obj} (h : Grows w w' o) : w'.heap[w.heap.size]? = some o := by rw [h.heap]; simp
theorem Grows.size {w w' : World} {o : Obj} (h : Grows w w' o) : w'.heap.size = w.heap.size + 1 := by rw [h.heap]; simp
theorem Grows.below {w w' : World} {o : Obj} (h : Grows w w' o) {B : Nat} (hB : B ≤ w.heap.size) : Below B w w' :=
 ⟨h.os, h.tape, h.output, by rw [h.size]; omega, fun k hk => h.old (by omega)⟩
theorem Bj.of_block {w w' : World} {b o : Nat} (h : w'.heap[b]? = w.heap[b]?) : Bj w w' b o :=
 ⟨World.cell?_of_block (w := w) h, fun es c e => h.trans e⟩
variable {C : Ctx} {B : Nat} {K : List Nat} {gh : Gh} {h : H} {w : World}
theorem Inv.J_lt (hI : Inv C B K gh h w) {s g b : Nat} (e : gh.J s g = some b) : b < w.heap.size := by
 obtain ⟨o, _, _, ho⟩ := hI.dom s g b e
 cases o <;> simp only [ORel] at ho
 ·obtain ⟨vs, tl, el, h1, _⟩ := ho; exact (Array.getElem?_eq_some_iff.1 h1).1
 ·obtain ⟨vs, el, xs, h1, _⟩ := ho; exact (Array.getElem?_eq_some_iff.1 h1).1
 ·obtain ⟨mb, ms, c, h1, _⟩ := ho; exact (Array.getElem?_eq_some_iff.1 h1).1
 ·obtain ⟨vs, el, _, _, h1, _⟩ := ho; exact (Array.getElem?_eq_some_iff.1 h1).1
 ·rw [Option.isSome_iff_exists] at ho; obtain ⟨x, hx⟩ := ho; exact (Array.getElem?_eq_some_iff.1 hx).1
theorem Inv.T_lt (hI : Inv C B K gh h w) {s : Nat} {t : Nat × Nat × Nat × Nat} (e : gh.T s (h.tok s) = some t) : t.1 < w.heap.size := by
 obtain ⟨⟨_, vs, el, h1, _⟩, _⟩ := hI.tok s t e
 exact (Array.getElem?_eq_some_iff.1 h1).1
theorem Inv.K_lt (hI : Inv C B K gh h w) {D : Nat} (e : D ∈ K) : D < w.heap.size := (Array.getElem?_eq_some_iff.1 (hI.kept D e).2.1).1
theorem Inv.J_count (hI : Inv C B K gh h w) (s : Nat) : gh.J s (h.count s) = none := by
 cases e : gh.J s (h.count s) with
 | none => rfl
 | some b =>
  obtain ⟨o, ho, _⟩ := hI.dom s _ b e
  exact absurd (H.get_lt ho) (Nat.lt_irrefl _)
theorem Inv.keep {gh' : Gh} {w' : World} (hI : Inv C B K gh h w) (k : Stp B gh w gh' w') (hJ : gh'.J = gh.J) (hT : gh'.T = gh.T)
  (hb : ∀ b, b < w.heap.size → (∃ s g, gh.J s g = some b) ∨ (∃ s t, gh.T s (h.tok s) = some t ∧ t.1 = b) ∨ b ∈ K → w'.heap[b]? = w.heap[b]? ∧ ∀ x, gh'.F b x → gh.F b x)
  (hfs : ∀ b o, gh'.F b o → b < w'.heap.size) : Inv C B K gh' h w' where
 size := Nat.le_trans hI.size k.below.size
 dom := fun s g b e => by
  rw [hJ] at e
  obtain ⟨o, h1, h2, h3⟩ := hI.dom s g b e
  obtain ⟨e1, e2⟩ := hb b (hI.J_lt e) (.inl ⟨s, g, e⟩)
  exact ⟨o, h1, h2, h3.mono k e1 e2 (k.le.Z _ _ _ e)⟩
 back := fun s g o e => by rw [hJ]; exact hI.back s g o e
 inj := fun s g s' g' b e e' => by rw [hJ] at e e'; exact hI.inj s g s' g' b e e'
 tok := fun s t e => by
  rw [hT] at e
  obtain ⟨h1, h2, h3⟩ := hI.tok s t e
  obtain ⟨e1, e2⟩ := hb t.1 (hI.T_lt e) (.inr (.inl ⟨s, t, e, rfl⟩))
  exact ⟨h1.mono e1 e2, fun s' g' => by rw [hJ]; exact h2 s' g', h3⟩
 tinj := fun s s' t t' e e' => by rw [hT] at e e'; exact hI.tinj s s' t t' e e'
 tfresh := fun s g hg => by rw [hT]; exact hI.tfresh s g hg
 kept := fun D hD => by
  obtain ⟨h1, h2, h3⟩ := hI.kept D hD
  obtain ⟨e1, _⟩ := hb D (hI.K_lt hD) (.inr (.inr hD))
  exact ⟨h1, e1.trans h2, fun s g => by rw [hJ]; exact h3 s g⟩
 glob := fun g row e j y ey => by
  obtain ⟨x, h1, h2, h3⟩ := hI.glob g row e j y ey
  exact ⟨x, (k.same _ _ h2).1.trans h1, k.le.F _ _ h2, h3.mono k.le.F k.same⟩
 fsize := hfs
theorem Inv.newData {w' : World} {vs : List Value} {elem : TypeId} {n : Nat} (hI : Inv C B K gh h w) (hw : Grows w w' (.cells vs.toArray elem (0, 0))) :
  let gh' : Gh := { gh with F := fun b o => gh.F b o ∨ (b = w.heap.size ∧ o < n) }
  Stp B gh w gh' w' ∧ Inv C B K gh' h w' := by
 intro gh'
 have k : Stp B gh w gh' w' := ⟨hw.below hI.size, ⟨fun _ _ _ e => e, fun _ _ _ e => e, fun _ _ e => .inl e, fun _ _ _ _ => rfl⟩, fun b o hF => Bj.of_block (hw.old (hI.fsize b o hF)), fun b o e hb => by
  rcases e with e | ⟨rfl, _⟩
  ·exact e
  ·have := hI.size; omega⟩
 refine ⟨k, hI.keep k rfl rfl (fun b hb _ => ⟨hw.old hb, ?_⟩) ?_⟩
 ·rintro x (hx | ⟨rfl, _⟩)
  ·exact hx
  ·omega
 ·rintro b o (hx | ⟨rfl, _⟩)
  ·rw [hw.size]; have := hI.fsize b o hx; omega
  ·rw [hw.size]; omega
def osize : Obj → Nat
 | .cells vs _ _ => vs.size
 | _ => 0
def Gh.addJ (gh : Gh) (s g b z : Nat) : Gh := { gh with J := fun s' g' => if s' = s ∧ g' = g then some b else gh.J s' g', Z := fun b' => if b' = b then z else gh.Z b' }
theorem Gh.addJ_Z {gh : Gh} {s g b z : Nat} : (gh.addJ s g b z).Z b = z := by simp [Gh.addJ]
theorem Inv.newObj {w' : World} {O : Obj} {o : AO} (s : Nat) (hI : Inv C B K gh h w) (hw : Grows w w' O)
  (ho : Stp B gh w (gh.addJ s (h.count s) w.heap.size (osize O)) w' → ORel (gh.addJ s (h.count s) w.heap.size (osize O)) w' w.heap.size o) :
  Stp B gh w (gh.addJ s (h.count s) w.heap.size (osize O)) w' ∧ Inv C B K (gh.addJ s (h.count s) w.heap.size (osize O)) (h.push s o) w' ∧ (gh.addJ s (h.count s) w.heap.size (osize O)).J s (h.count s) = some w.heap.size := by
 have hle : GLe gh (gh.addJ s (h.count s) w.heap.size (osize O)) := by
  refine ⟨fun s' g' b e => ?_, fun _ _ _ e => e, fun _ _ e => e, fun s' g' b e => ?_⟩
  ·simp only [Gh.addJ]
   rw [if_neg]
   ·exact e
   ·rintro ⟨rfl, rfl⟩; rw [hI.J_count] at e; cases e
  ·have := hI.J_lt e
   simp only [Gh.addJ]
   rw [if_neg (by omega)]
 have k : Stp B gh w (gh.addJ s (h.count s) w.heap.size (osize O)) w' := ⟨hw.below hI.size, hle, fun b o hF => Bj.of_block (hw.old (hI.fsize b o hF)), fun _ _ e _ => e⟩
 have hnew : (gh.addJ s (h.count s) w.heap.size (osize O)).J s (h.count s) = some w.heap.size := by simp [Gh.addJ]
 refine ⟨k, ?_, hnew⟩
 have hcase : ∀ s' g' b, (gh.addJ s (h.count s) w.heap.size (osize O)).J s' g' = some b → (s' = s ∧ g' = h.count s ∧ b = w.heap.size) ∨ (gh.J s' g' = some b ∧ ¬ (s' = s ∧ g' = h.count s)) := by
  intro s' g' b e
  simp only [Gh.addJ] at e
  split at e
  ·rename_i hc; exact .inl ⟨hc.1, hc.2, by simpa using e.symm⟩
  ·rename_i hc; exact .inr ⟨e, hc⟩
 exact {
  size := Nat.le_trans hI.size k.below.size
  dom := fun s' g' b e => by
   rcases hcase s' g' b e with ⟨rfl, rfl, rfl⟩ | ⟨e', hn⟩
   ·exact ⟨o, H.get_push_same _ _ _, hI.size, ho k⟩
   ·obtain ⟨o', h1, h2, h3⟩ := hI.dom s' g' b e'
    exact ⟨o', H.get_push_old h1, h2, h3.mono k (hw.old (hI.J_lt e')) (fun x hx => hx) (k.le.Z _ _ _ e')⟩
  back := fun s' g' o' e => by
   by_cases hc : s' = s ∧ g' = h.count s
   ·obtain ⟨rfl, rfl⟩ := hc; exact ⟨_, hnew⟩
   ·rw [H.get_push_other _ _ _ _ _ hc] at e
    obtain ⟨b, hb⟩ := hI.back s' g' o' e
    exact ⟨b, hle.J _ _ _ hb⟩
  inj := fun s1 g1 s2 g2 b e1 e2 d1 d2 => by
   rcases hcase _ _ _ e1 with ⟨rfl, rfl, rfl⟩ | ⟨e1', c1⟩ <;> rcases hcase _ _ _ e2 with ⟨rfl, rfl, h3⟩ | ⟨e2', c2⟩
   ·exact ⟨rfl, rfl⟩
   ·exact absurd (hI.J_lt e2') (Nat.lt_irrefl _)
   ·subst h3; exact absurd (hI.J_lt e1') (Nat.lt_irrefl _)
   ·rw [H.get_push_other _ _ _ _ _ c1] at d1
    rw [H.get_push_other _ _ _ _ _ c2] at d2
    exact hI.inj _ _ _ _ _ e1' e2' d1 d2
  tok := fun s' t e => by
   obtain ⟨h1, h2, h3⟩ := hI.tok s' t e
   refine ⟨h1.mono (hw.old (hI.T_lt e)) (fun x hx => hx), fun s1 g1 e1 => ?_, h3⟩
   rcases hcase _ _ _ e1 with ⟨_, _, h4⟩ | ⟨e', _⟩
   ·have := hI.T_lt e; omega
   ·exact h2 _ _ e'
  tinj := fun s1 s2 t t' e e' => hI.tinj s1 s2 t t' e e'
  tfresh := fun s' g' hg => hI.tfresh s' g' hg
  kept := fun D hD => by
   obtain ⟨h1, h2, h3⟩ := hI.kept D hD
   refine ⟨h1, (hw.old (hI.K_lt hD)).trans h2, fun s1 g1 e1 => ?_⟩
   rcases hcase _ _ _ e1 with ⟨_, _, h4⟩ | ⟨e', _⟩
   ·have := hI.K_lt hD; omega
   ·exact h3 _ _ e'
  glob := fun g row e j y ey => by
   obtain ⟨x, h1, h2, h3⟩ := hI.glob g row e j y ey
   exact ⟨x, (k.same _ _ h2).1.trans h1, h2, h3.mono k.le.F k.same⟩
  fsize := fun b x hx => by rw [hw.size]; have := hI.fsize b x hx; omega }
theorem Inv.setObj {w' : World} {s g b : Nat} {o o' : AO} (hI : Inv C B K gh h w) (hJ : gh.J s g = some b) (hg : h.get s g = some o)
  (hos : w'.os = w.os) (htape : w'.tape = w.tape) (hout : w'.output = w.output) (hsz : w'.heap.size = w.heap.size) (hother : ∀ k, k ≠ b → w'.heap[k]? = w.heap[k]?)
  (hF : ∀ x, ¬ gh.F b x) (ho : Stp B gh w gh w' → ORel gh w' b o') (hal : o ≠ .dead) : Stp B gh w gh w' ∧ Inv C B K gh (h.set s g o') w' := by
 obtain ⟨_, _, hBb, _⟩ := hI.dom s g b hJ
 have hglt := H.get_lt hg
 have k : Stp B gh w gh w' := ⟨⟨hos, htape, hout, by omega, fun i hi => hother i (by omega)⟩, .refl _, fun c x hFx => Bj.of_block (hother c (by rintro rfl; exact hF x hFx)), fun _ _ e _ => e⟩
 refine ⟨k, ?_⟩
 exact {
  size := by rw [hsz]; exact hI.size
  dom := fun s' g' c e => by
   obtain ⟨o1, h1, h2, h3⟩ := hI.dom s' g' c e
   by_cases hc : s' = s ∧ g' = g
   ·obtain ⟨rfl, rfl⟩ := hc
    obtain rfl : c = b := by rw [hJ] at e; simpa using e.symm
    exact ⟨o', H.get_set_same hg, h2, ho k⟩
   ·by_cases hd : o1 = .dead
    ·subst hd
     refine ⟨.dead, by rw [H.get_set_other _ _ _ _ _ _ hglt hc]; exact h1, h2, ?_⟩
     have := hI.J_lt e
     simp only [ORel]
     rw [Array.getElem?_eq_getElem (by omega)]; rfl
    ·have hne : c ≠ b := fun hcb => hc (by subst hcb; exact hI.inj _ _ _ _ _ e hJ (by rw [h1]; simpa using hd) (by rw [hg]; simpa using hal))
     exact ⟨o1, by rw [H.get_set_other _ _ _ _ _ _ hglt hc]; exact h1, h2, h3.mono k (hother c hne) (fun x hx => hx) rfl⟩
  back := fun s' g' o1 e => by
   by_cases hc : s' = s ∧ g' = g
   ·obtain ⟨rfl, rfl⟩ := hc; exact ⟨b, hJ⟩
   ·rw [H.get_set_other _ _ _ _ _ _ hglt hc] at e; exact hI.back s' g' o1 e
  inj := fun s1 g1 s2 g2 c e1 e2 d1 d2 => by
   have hup : ∀ s' g', (h.set s g o').get s' g' ≠ some .dead → h.get s' g' ≠ some .dead := by
    intro s' g' hd
    by_cases hc : s' = s ∧ g' = g
    ·obtain ⟨rfl, rfl⟩ := hc; rw [hg]; simpa using hal
    ·rwa [H.get_set_other _ _ _ _ _ _ hglt hc] at hd
   exact hI.inj _ _ _ _ _ e1 e2 (hup _ _ d1) (hup _ _ d2)
  tok := fun s' t e => by
   obtain ⟨h1, h2, h3⟩ := hI.tok s' t e
   exact ⟨h1.mono (hother t.1 (fun hb => h2 s g (by rw [hb]; exact hJ))) (fun x hx => hx), h2, h3⟩
  tinj := hI.tinj
  tfresh := hI.tfresh
  kept := fun D hD => by
   obtain ⟨h1, h2, h3⟩ := hI.kept D hD
   exact ⟨h1, (hother D (fun hb => h3 s g (by rw [hb]; exact hJ))).trans h2, h3⟩
  glob := fun g' row e j y ey => by
   obtain ⟨x, h1, h2, h3⟩ := hI.glob g' row e j y ey
   exact ⟨x, (k.same _ _ h2).1.trans h1, h2, h3.mono k.le.F k.same⟩
  fsize := fun c x hx => by rw [hsz]; exact hI.fsize c x hx }
end Go.Ev
namespace Go.Ev
open Go Go.RowKit
variable {C : Ctx} {B : Nat} {K : List Nat} {gh : Gh} {h : H} {w : World}
theorem one_eq (x : Value) : x.oneCell' = one x := by cases x <;> rfl
theorem AB {t : TypeId} {d : TypeDesc} (hd : C.P.underlying t = some d) : (underlying t).run C.P w = .ok d w := by simp [underlying, hd]
theorem run_isAggT {t : TypeId} {b : Bool} (hb : isAggT C t = some b) : (isAgg t).run C.P w = .ok b w := by
 unfold isAggT at hb
 unfold isAgg
 split at hb
 ·rename_i fs e; simp at hb; subst hb; simp [AB e]
 ·rename_i n el e; simp at hb; subst hb; simp [AB e]
 ·rename_i d h1 h2 e
  simp at hb; subst hb
  simp only [Sem.run_bind, AB e, Result.andThen_ok]
  cases d <;> first | rfl | exact absurd e (h1 _) | exact absurd e (h2 _ _)
 ·simp at hb
theorem Bi {t : TypeId} {n : Nat} (hn : AR C t = some n) : (sizeOf t).run C.P w = .ok n w := by
 unfold AR at hn
 cases e : C.P.info? t with
 | none => simp [e] at hn
 | some i => simp [e] at hn; subst hn; simp [sizeOf, typeInfo, e]
theorem run_zeroT {t : TypeId} {z : Value} (hz : BL C t = some z) : (zeroValue t).run C.P w = .ok z w := by
 unfold BL at hz
 cases e : C.P.info? t with
 | none => simp [e] at hz
 | some i => simp [e] at hz; simp [zeroValue, typeInfo, e, hz]
theorem Cn {α β : Type} {f : α → Option β} {l : List α} {r : List β} (h : Ae f l = some r) : l.length = r.length ∧ ∀ (i : Nat) (a : α) (b : β), l[i]? = some a → r[i]? = some b → f a = some b := by
 induction l generalizing r with
 | nil => simp [Ae] at h; subst h; simp
 | cons a l ih =>
  simp only [Ae] at h
  cases e : f a with
  | none => simp [e] at h
  | some b =>
   simp only [e] at h
   cases e2 : Ae f l with
   | none => simp [e2] at h
   | some l' =>
    simp only [e2, Option.some.injEq] at h
    subst h
    obtain ⟨h1, h2⟩ := ih e2
    refine ⟨by simp [h1], fun i x y hx hy => ?_⟩
    cases i with
    | zero => simp at hx hy; subst hx; subst hy; exact e
    | succ i => simp at hx hy; exact h2 i x y hx hy
theorem RA.eq_v {x v : Value} (hr : RA gh w (.d (.v x)) v) : v = x := by
 cases hr with
 | v => rfl
 | d _ _ hd => cases hd; rfl
theorem cellV_eq {a : AV} {x v : Value} (hc : cellV a = some x) (hr : RA gh w a v) : v = x := by
 unfold cellV at hc
 split at hc
 ·simp at hc; subst hc; exact hr.eq_v
 ·cases hc
theorem toV_eq {a : AV} {x v : Value} (hc : toV a = some x) (hr : RA gh w a v) : v = x := by
 unfold toV at hc
 split at hc
 ·simp at hc; subst hc; exact hr.eq_v
 ·rename_i cs
  cases e : Ae cellV cs with
  | none => simp [e] at hc
  | some vs =>
   simp only [e, Option.some.injEq] at hc
   subst hc
   cases hr with
   | agg _ ws hl hr =>
    obtain ⟨h1, h2⟩ := Cn e
    congr 2
    apply List.ext_getElem?
    intro i
    by_cases hi : i < cs.length
    ·have a1 : ws[i]? = some ws[i] := List.getElem?_eq_getElem (by omega)
     have a2 : vs[i]? = some vs[i] := List.getElem?_eq_getElem (by omega)
     rw [a1, a2]
     have := cellV_eq (h2 i cs[i] vs[i] (List.getElem?_eq_getElem hi) a2) (hr i cs[i] ws[i] (List.getElem?_eq_getElem hi) a1)
     rw [this]
    ·rw [List.getElem?_eq_none (by omega), List.getElem?_eq_none (by omega)]
 ·cases hc
theorem RA.of_v1 (v : Value) : RA gh w (ofV1 v) v := by
 unfold ofV1
 split
 ·rename_i cs
  have := RA.agg (gh := gh) (w := w) (cs.toList.map fun c => AV.d (.v c)) cs.toList (by simp) (fun i a x ha hx => by
   rw [List.getElem?_map, hx] at ha
   simp at ha; subst ha; exact .v x)
  simpa using this
 ·exact .v v
theorem RA.of_v (v : Value) : RA gh w (ofV v) v := by
 unfold ofV
 split
 ·rename_i vs
  split
  ·rename_i he
   obtain rfl : vs = #[] := by simpa using he
   exact .v _
  ·have := RA.tup (gh := gh) (w := w) (vs.toList.map ofV1) vs.toList (by simp) (fun i a x ha hx => by
    rw [List.getElem?_map, hx] at ha
    simp at ha; subst ha; exact .of_v1 x)
   simpa using this
 ·exact .of_v1 v
def Out (C : Ctx) (B : Nat) (K : List Nat) (gh : Gh) (h' : H) (w : World) (a : AV) (r : Result Next) : Prop :=
 ∃ v w' gh', (r = .ok (.value v) w' ∨ (r = .ok .skip w' ∧ v = undef)) ∧ Stp B gh w gh' w' ∧ Inv C B K gh' h' w' ∧ RA gh' w' a v
theorem Out.same {a : AV} {v : Value} {r : Result Next} (hI : Inv C B K gh h w) (hr : r = .ok (.value v) w) (ha : RA gh w a v) : Out C B K gh h w a r :=
 ⟨v, w, gh, .inl hr, .refl _ _ _, hI, ha⟩
theorem plainOp_out {o : Oper} {ρ : Operand → AV} {ρc : Operand → Value} {a : AV} (hI : Inv C B K gh h w) (hρ : ∀ x, RA gh w (ρ x) (ρc x))
  (hs : ∀ cs b, o.op ≠ .select cs b) (ho : B5 C o ρ = some a) : Out C B K gh h w a ((execOp ρc o).run C.P w) := by
 unfold B5 at ho
 split at ho
 ·rename_i hall
  have e : execOp ρc o = execOp (fun x => (toV (ρ x)).getD undef) o := execOp_congr o hs (fun x hx => by
   have := List.all_eq_true.1 hall x (by simpa using hx)
   obtain ⟨v, hv⟩ := Option.isSome_iff_exists.1 this
   simp only [hv, Option.getD_some]
   exact toV_eq hv (hρ x))
  rw [e]
  cases es : Ar C.P (execOp (fun x => (toV (ρ x)).getD undef) o) with
  | none => simp [es] at ho
  | some nx =>
   cases nx with
   | value v =>
    simp only [es, Option.some.injEq] at ho
    subst ho
    exact .same hI (still_run w es) (.of_v _)
   | _ => simp [es] at ho
 ·cases ho
theorem RD.one {F : Nat → Nat → Prop} {y : DV} {x : Value} (hr : RD F w y x) : Ev.one x = true := by
 cases hr with
 | v x h => exact h
 | sl => rfl
 | mp => rfl
 | tab => rfl
 | mn0 => rfl
 | mne => rfl
 | mn _ _ _ h => cases h; rfl
theorem RA.isCell {a : AV} {x : Value} (hc : isCell a = true) (hr : RA gh w a x) : one x = true := by
 cases hr with
 | v x => simpa [Ev.isCell] using hc
 | d y x h => exact h.one
 | agg => simp [Ev.isCell] at hc
 | tup => simp [Ev.isCell] at hc
 | top => simp [Ev.isCell] at hc
 | _ => rfl
theorem cells_one {x : Value} (h : one x = true) : x.cells = #[x] := by cases x <;> first | rfl | (simp [one] at h)
theorem RA.cells {a : AV} {v : Value} (hc : (AX a).all Ev.isCell = true) (hr : RA gh w a v) :
  RL gh w (AX a) v.cells.toList ∧ ∀ x ∈ v.cells.toList, x.oneCell' = true := by
 have single : ∀ (a : AV) (v : Value), AX a = [a] → Ev.isCell a = true → RA gh w a v → RL gh w (AX a) v.cells.toList ∧ ∀ x ∈ v.cells.toList, x.oneCell' = true := by
  intro a v e h1 h2
  have h3 := h2.isCell h1
  rw [e, cells_one h3]
  refine ⟨⟨rfl, fun i b x hb hx => ?_⟩, fun x hx => ?_⟩
  ·cases i with
   | zero => simp at hb hx; subst hb; subst hx; exact h2
   | succ i => simp at hb
  ·simp at hx; subst hx; rw [one_eq]; exact h3
 cases a with
 | agg cs =>
  cases hr with
  | agg _ vs hl hr =>
   simp only [AX] at hc ⊢
   refine ⟨⟨by simpa [Value.cells] using hl, fun i a x ha hx => hr i a x ha (by simpa [Value.cells] using hx)⟩, fun x hx => ?_⟩
   simp [Value.cells] at hx
   obtain ⟨i, hi, rfl⟩ := List.mem_iff_getElem.1 hx
   rw [one_eq]
   exact (hr i cs[i] vs[i] (List.getElem?_eq_getElem (by omega)) (List.getElem?_eq_getElem hi)).isCell (List.all_eq_true.1 hc _ (List.getElem_mem _))
 | _ => exact single _ _ rfl (by simpa [AX] using hc) hr
theorem RL.get {as : List AV} {vs : List Value} (h : RL gh w as vs) {i : Nat} {a : AV} (ha : as[i]? = some a) : ∃ v, vs[i]? = some v ∧ RA gh w a v := by
 have hi : i < vs.length := by have := (List.getElem?_eq_some_iff.1 ha).1; have := h.1; omega
 exact ⟨vs[i], List.getElem?_eq_getElem hi, h.2 i a _ ha (List.getElem?_eq_getElem hi)⟩
theorem takeCells_eq {cs l : List AV} {off n : Nat} (h : BQ cs off n = some l) : off + n ≤ cs.length ∧ l.length = n ∧ ∀ (j : Nat) (a : AV), l[j]? = some a → j < n ∧ cs[off + j]? = some a := by
 unfold BQ at h
 split at h
 ·rename_i hle
  simp at h; subst h
  refine ⟨hle, by simp; omega, fun j a ha => ?_⟩
  rw [List.getElem?_take] at ha
  split at ha
  ·rename_i hj; exact ⟨hj, by simpa using ha⟩
  ·cases ha
 ·cases h
theorem load_out {t : TypeId} {cs : List AV} {off b o : Nat} {a : AV} {xs : Nat → Value} (hc : ∀ j, j < cs.length → w.cell? (Bn b (o + j)) = some (xs j))
  (hr : ∀ (j : Nat) (y : AV), cs[j]? = some y → RA gh w y (xs j)) (ha : AE C t cs off = some a) :
  ∃ v, (Instr.loadAt t (.pointer (some (Bn b (o + off))))).run C.P w = .ok v w ∧ RA gh w a v := by
 unfold AE at ha
 split at ha
 ·rename_i n e1 e2
  cases e3 : BQ cs off n with
  | none => simp [e3] at ha
  | some l =>
   simp only [e3, Option.some.injEq] at ha; subst ha
   obtain ⟨h1, h2, h3⟩ := takeCells_eq e3
   have hl := run_loadCells (P := C.P) w (Bn b (o + off)) n (fun j => xs (off + j)) (fun j hj => by
    have := hc (off + j) (by omega)
    simpa [Addr.add_lit, Nat.add_assoc] using this)
   refine ⟨.agg ((List.range n).map fun j => xs (off + j)).toArray, ?_, ?_⟩
   ·simp [Instr.loadAt, Instr.sureAddr, loadVar, run_isAggT e1, Bi e2, hl]
   ·refine .agg _ _ (by simp [h2]) (fun i y x hy hx => ?_)
    obtain ⟨hi, hg⟩ := h3 i y hy
    simp [hi] at hx; subst hx
    exact hr _ _ hg
 ·rename_i e1
  have hlt := (List.getElem?_eq_some_iff.1 ha).1
  refine ⟨xs off, ?_, hr _ _ ha⟩
  simp [Instr.loadAt, Instr.sureAddr, loadVar, run_isAggT e1, hc off hlt]
 ·cases ha
theorem ORel.cells_cell {b : Nat} {cs : List AV} {fz : Bool} (h : ORel gh w b (.cells cs fz)) : ∃ xs : Nat → Value, (∀ j, j < cs.length → w.cell? (Bn b (0 + j)) = some (xs j)) ∧ ∀ (j : Nat) (y : AV), cs[j]? = some y → RA gh w y (xs j) := by
 obtain ⟨vs, tl, e, h1, _, h2, _⟩ := h
 refine ⟨fun j => vs.getD j undef, fun j hj => ?_, fun j y hy => ?_⟩
 ·have : j < vs.length := by have := h2.1; omega
  simp [cell_of_row w b _ _ _ _ h1, this, List.getElem?_append_left this]
 ·obtain ⟨v, hv, hr⟩ := h2.get hy
  simpa [List.getD, hv] using hr
theorem loadOp_out {t : TypeId} {p : AV} {pv : Value} {a : AV} (hI : Inv C B K gh h w) (hp : RA gh w p pv) (ha : loadOp C t p h = some a) :
  ∃ v, (Instr.loadAt t pv).run C.P w = .ok v w ∧ RA gh w a v := by
 cases p with
 | ptr s g off =>
  simp only [loadOp] at ha
  cases e : h.get s g with
  | none => simp [e] at ha
  | some o =>
   cases o with
   | cells cs fz =>
    simp only [e] at ha
    cases hp with
    | ptr _ _ _ b hJ =>
     obtain ⟨o', h1, _, h3⟩ := hI.dom s g b hJ
     rw [e] at h1; obtain rfl : AO.cells cs fz = o' := by simpa using h1
     obtain ⟨xs, hc, hr⟩ := h3.cells_cell
     have := load_out (o := 0) hc hr ha
     simpa using this
   | _ => simp [e] at ha
 | pin row off =>
  simp only [loadOp] at ha
  cases hp with
  | pin _ _ b o xs hc hr =>
   refine load_out (xs := xs) (fun j hj => (hc j (by simpa using hj)).1) (fun j y hy => ?_) ha
   simp only [List.getElem?_map, Option.map_eq_some_iff] at hy
   obtain ⟨d, hd, rfl⟩ := hy
   exact .d _ _ (hr j d hd)
 | d y =>
  cases y with
  | v x =>
   unfold loadOp at ha
   split at ha
   ·rename_i heq; cases heq
   ·rename_i heq; cases heq
   ·rename_i b off heq
    simp only [AV.d.injEq, DV.v.injEq] at heq
    subst heq
    rw [hp.eq_v]
    cases e : C.glob b with
    | none => simp [e] at ha
    | some row =>
     simp only [e] at ha
     have hg := hI.glob b row e
     refine load_out (o := 0) (xs := fun j => (w.cell? (Bn b j)).getD undef) (fun j hj => ?_) (fun j y hy => ?_) (by simpa using ha) |>.imp fun v hv => by simpa using hv
     ·simp only [List.length_map] at hj
      obtain ⟨x, h1, _⟩ := hg j row[j] (List.getElem?_eq_getElem hj)
      simp [h1]
     ·simp only [List.getElem?_map, Option.map_eq_some_iff] at hy
      obtain ⟨d, hd, rfl⟩ := hy
      obtain ⟨x, h1, _, h3⟩ := hg j d hd
      simpa [h1] using RA.d _ _ h3
   ·cases ha
  | _ => simp [loadOp] at ha
 | _ => simp [loadOp] at ha
theorem putCells_eq (l : List AV) : ∀ (cs : List AV) (off : Nat), off + l.length ≤ cs.length → AL cs off l = cs.take off ++ l ++ cs.drop (off + l.length) := by
 induction l with
 | nil => intro cs off h; simp [AL]
 | cons x r ih =>
  intro cs off h
  simp only [AL]
  rw [ih _ _ (by simp at h ⊢; omega)]
  simp only [List.length_cons] at h ⊢
  have hlt : off < cs.length := by omega
  apply List.ext_getElem?
  intro i
  simp only [List.append_assoc, List.getElem?_append, List.length_take, List.length_set, List.getElem?_take, List.getElem?_drop, List.getElem?_set, List.length_cons, List.singleton_append, List.getElem?_cons]
  grind
theorem storeOp_out {t : TypeId} {p x : AV} {pv xv : Value} {h' : H} (hI : Inv C B K gh h w) (hp : RA gh w p pv) (hx : RA gh w x xv) (ha : storeOp C t p x h = some h') :
  ∃ w', (Instr.storeAt t pv xv).run C.P w = .ok () w' ∧ Stp B gh w gh w' ∧ Inv C B K gh h' w' := by
 cases p with
 | ptr s g off =>
  simp only [storeOp] at ha
  split at ha
  ·rename_i cs n e1 e2
   split at ha
   ·rename_i hc
    obtain ⟨hc1, hc2, hc3⟩ := hc
    simp at ha; subst ha
    cases hp with
    | ptr _ _ _ b hJ =>
     obtain ⟨o', h1, hBb, h3⟩ := hI.dom s g b hJ
     rw [e1] at h1; obtain rfl : AO.cells cs false = o' := by simpa using h1
     obtain ⟨vs, tl, e, hb, hzz, hrl, hF⟩ := h3
     obtain ⟨hxl, hx1⟩ := hx.cells hc3
     have hlen : xv.cells.toList.length = n := by rw [← hxl.1]; exact hc1
     have hst := run_storeCells_at C.P b off e xv.cells.toList 0 (vs ++ tl).toArray w hb (by simp only [List.size_toArray, List.length_append]; have := hrl.1; simp only [Nat.add_zero]; omega) hx1
     simp only [Nat.add_zero] at hst
     have hvl : off + xv.cells.toList.length ≤ vs.length := by have := hrl.1; omega
     rw [List.take_append_of_le_length (by omega), List.drop_append_of_le_length hvl, ← List.append_assoc] at hst
     refine ⟨w.setRow b (vs.take off ++ xv.cells.toList ++ vs.drop (off + xv.cells.toList.length) ++ tl).toArray, ?_, ?_⟩
     ·simp only [Instr.storeAt, Instr.sureAddr, Sem.run_bind, Sem.run_pure, Result.andThen_ok, storeVar, Bi e2]
      rw [if_neg (by simpa using hlen)]
      simpa using hst
     ·have hbl : b < w.heap.size := hI.J_lt hJ
      refine hI.setObj hJ e1 rfl rfl rfl (by simp [World.setRow]) (fun k hk => ?_) (hF rfl) (fun k => ?_) (by simp)
      ·simp only [World.setRow, Array.getElem?_modify]; rw [if_neg (fun h => hk h.symm)]
      ·refine ⟨vs.take off ++ xv.cells.toList ++ vs.drop (off + xv.cells.toList.length), tl, e, ?_, ?_, ?_, fun _ => hF rfl⟩
       ·exact setRow_heap w b _ _ _ _ hb
       ·rw [← hzz]; simp only [List.length_append, List.length_take, List.length_drop]; omega
       ·have hle : off + (AX x).length ≤ cs.length := by omega
        rw [putCells_eq _ _ _ hle]
        refine ⟨by simp [hrl.1, hc1, hlen], fun i a y hia hiy => ?_⟩
        have hrl' := hrl.mono k
        have hxl' := hxl.mono k
        have hcl : (AX x).length = xv.cells.toList.length := hxl.1
        have e1 := hrl'.1
        rw [List.append_assoc, List.getElem?_append] at hia hiy
        simp only [List.length_take] at hia hiy
        rw [← e1] at hiy
        split at hia
        ·rename_i hi
         rw [if_pos hi] at hiy
         rw [List.getElem?_take] at hia hiy
         split at hia
         ·rename_i h5; rw [if_pos h5] at hiy; exact hrl'.2 i a y hia hiy
         ·cases hia
        ·rename_i hi
         rw [if_neg hi] at hiy
         rw [List.getElem?_append] at hia hiy
         rw [← hcl] at hiy
         split at hia
         ·rename_i h5; rw [if_pos h5] at hiy; exact hxl'.2 _ a y hia hiy
         ·rename_i h5
          rw [if_neg h5] at hiy
          rw [List.getElem?_drop] at hia hiy
          exact hrl'.2 _ a y hia hiy
   ·cases ha
  ·cases ha
 | _ => simp [storeOp] at ha
end Go.Ev
namespace Go.Ev
open Go Go.RowKit
variable {C : Ctx} {B : Nat} {K : List Nat} {gh : Gh} {h : H} {w : World}
theorem RL.of_plain (vs : List Value) : RL gh w (vs.map fun c => AV.d (.v c)) vs :=
 ⟨by simp, fun i a x ha hx => by simp [hx] at ha; subst ha; exact .v x⟩
theorem RL.set {as : List AV} {vs : List Value} (hl : RL gh w as vs) {a : AV} {v : Value} (ha : RA gh w a v) (i : Nat) : RL gh w (as.set i a) (vs.set i v) := by
 refine ⟨by simp [hl.1], fun j b x hb hx => ?_⟩
 rw [List.getElem?_set] at hb hx
 rw [← hl.1] at hx
 by_cases hij : i = j
 ·subst hij
  rw [if_pos rfl] at hb hx
  by_cases h1 : i < as.length
  ·rw [if_pos h1] at hb hx; simp at hb hx; subst hb; subst hx; exact ha
  ·rw [if_neg h1] at hb; cases hb
 ·rw [if_neg hij] at hb hx; exact hl.2 j b x hb hx
theorem RL.put {xs : List AV} {ys : List Value} : ∀ {as : List AV} {vs : List Value} (off : Nat), RL gh w as vs → RL gh w xs ys → RL gh w (AL as off xs) (AL vs off ys) := by
 induction xs generalizing ys with
 | nil =>
  intro as vs off h1 h2
  have e := h2.1
  obtain rfl : ys = [] := by
   cases ys with
   | nil => rfl
   | cons y ys => simp at e
  simpa [AL] using h1
 | cons x xs ih =>
  intro as vs off h1 h2
  cases ys with
  | nil => have := h2.1; simp at this
  | cons y ys =>
   simp only [AL]
   exact ih (off + 1) (h1.set (h2.2 0 x y rfl rfl) off) ⟨by have := h2.1; simpa using this, fun i a v ha hv => h2.2 (i + 1) a v (by simpa using ha) (by simpa using hv)⟩
theorem zipIdx_put (off : Nat) : ∀ (l : List Value) (k : Nat) (cells : Array Value),
  ((l.zipIdx k).foldl (fun cs (p : Value × Nat) => cs.setIfInBounds (off + p.2) p.1) cells).toList = AL cells.toList (off + k) l
 | [], k, cells => by simp [AL]
 | x :: r, k, cells => by
  simp only [List.zipIdx_cons, List.foldl_cons, AL]
  rw [zipIdx_put off r (k + 1)]
  simp [Nat.add_assoc]
theorem fill_out {place : Nat → Option (Nat × Nat)} : ∀ {parts : List (Nat × AV)} {vparts : List (Nat × Value)} {cells : List AV} {vcells : Array Value} {cs : List AV},
  RL gh w cells vcells.toList → vparts.length = parts.length → (∀ (i : Nat) p q, parts[i]? = some p → vparts[i]? = some q → p.1 = q.1 ∧ RA gh w p.2 q.2) →
  aFill place cells parts = some cs → ∃ vs, Instr.fill place vcells vparts = some vs ∧ RL gh w cs vs.toList := by
 intro parts
 induction parts with
 | nil =>
  intro vparts cells vcells cs h1 h2 h3 h4
  obtain rfl : vparts = [] := by simpa using h2
  simp [aFill] at h4; subst h4
  exact ⟨vcells, rfl, h1⟩
 | cons p parts ih =>
  intro vparts cells vcells cs h1 h2 h3 h4
  cases vparts with
  | nil => simp at h2
  | cons q vparts =>
   obtain ⟨i, a⟩ := p
   obtain ⟨j, v⟩ := q
   obtain ⟨hij, hav⟩ := h3 0 _ _ rfl rfl
   simp only at hij hav; subst hij
   simp only [aFill, Instr.fill] at h4 ⊢
   cases e : place i with
   | none => simp [e] at h4
   | some os =>
    obtain ⟨off, size⟩ := os
    simp only [e] at h4 ⊢
    split at h4
    ·cases h4
    ·rename_i hn
     simp only [not_or, Decidable.not_not, Bool.not_eq_false] at hn
     obtain ⟨n1, n2, n3⟩ := hn
     obtain ⟨c1, c2⟩ := hav.cells n3
     have l1 : (AX a).length = v.cells.size := by simpa using c1.1
     have l2 : cells.length = vcells.size := by simpa using h1.1
     rw [if_neg (by simp; omega)]
     refine ih ?_ (by simpa using h2) (fun k p q hp hq => h3 (k + 1) p q (by simpa using hp) (by simpa using hq)) h4
     have e1 : v.cells.zipIdx.foldl (fun cs (p : Value × Nat) => cs.setIfInBounds (off + p.2) p.1) vcells = (v.cells.toList.zipIdx 0).foldl (fun cs (p : Value × Nat) => cs.setIfInBounds (off + p.2) p.1) vcells := by
      rw [← Array.foldl_toList, Array.toList_zipIdx]
     have := zipIdx_put off v.cells.toList 0 vcells
     simp only [Nat.add_zero] at this
     show RL gh w _ (v.cells.zipIdx.foldl (fun cs (p : Value × Nat) => cs.setIfInBounds (off + p.2) p.1) vcells).toList
     rw [e1, this]
     exact h1.put off c1
theorem flatten_get {α : Type} (l : List α) (n : Nat) : ∀ (i : Nat), i < n * l.length → ((List.replicate n l).flatten)[i]? = l[i % l.length]? := by
 induction n with
 | zero => intro i hi; simp at hi
 | succ n ih =>
  intro i hi
  rw [List.replicate_succ, List.flatten_cons, List.getElem?_append]
  by_cases h1 : i < l.length
  ·rw [if_pos h1, Nat.mod_eq_of_lt h1]
  ·have e : i % l.length = (i - l.length) % l.length := Nat.mod_eq_sub_mod (by omega)
   rw [if_neg h1, ih _ (by rw [Nat.succ_mul] at hi; omega), e]
theorem made_eq (z : Array Value) (n : Nat) : ((Array.range (n * z.size)).map (z[· % z.size]!)).toList = (List.replicate n z.toList).flatten := by
 apply List.ext_getElem?
 intro i
 by_cases hi : i < n * z.size
 ·rw [flatten_get _ _ _ (by simpa using hi)]
  have hp : 0 < z.size := by
   rcases Nat.eq_zero_or_pos z.size with h0 | h0
   ·rw [h0] at hi; simp at hi
   ·exact h0
  have hm := Nat.mod_lt i hp
  simp [hi, hm]
 ·rw [List.getElem?_eq_none (by simp; omega), List.getElem?_eq_none (by simp; omega)]
theorem plain_flatten (z : List Value) (n : Nat) : RL gh w (List.replicate n (z.map fun c => AV.d (.v c))).flatten (List.replicate n z).flatten := by
 have : (List.replicate n (z.map fun c => AV.d (.v c))).flatten = ((List.replicate n z).flatten).map fun c => AV.d (.v c) := by
  simp [List.map_flatten, List.map_replicate]
 rw [this]
 exact .of_plain _
theorem chunk_length (sz : Nat) : ∀ (n : Nat) (l : List DV), (chunk sz n l).length = n
 | 0, _ => rfl
 | n + 1, l => by simp [chunk, chunk_length sz n]
theorem chunk_get (sz : Nat) : ∀ (n : Nat) (l : List DV) (i : Nat) (r : List DV), (chunk sz n l)[i]? = some r → i < n ∧ r = (l.drop (i * sz)).take sz
 | 0, _, i, r, h => by simp [chunk] at h
 | n + 1, l, 0, r, h => by simp [chunk] at h; subst h; simp
 | n + 1, l, i + 1, r, h => by
  simp only [chunk, List.getElem?_cons_succ] at h
  obtain ⟨h1, h2⟩ := chunk_get sz n _ i r h
  refine ⟨by omega, ?_⟩
  rw [h2, List.drop_drop]
  congr 2
  rw [Nat.add_mul]; omega
theorem cellD_rel {a : AV} {y : DV} {x : Value} (hc : cellD a = some y) (hr : RA gh w a x) : RD gh.F w y x := by
 unfold cellD at hc
 split at hc
 ·split at hc
  ·rename_i z ho
   simp at hc; subst hc
   rw [hr.eq_v]; exact .v _ ho
  ·cases hc
 ·rename_i z hz
  simp at hc; subst hc
  cases hr with
  | v x => exact absurd rfl (hz _)
  | d _ _ hd => exact hd
 ·simp at hc; subst hc
  cases hr with
  | st _ _ _ _ b len cap hd ht => exact hd
 ·cases hc
theorem RD.rows {F : Nat → Nat → Prop} {sz len b o cap : Nat} {full : Bool} {ds : List DV} {xs : Nat → Value} (hlen : ds.length = len * sz) (hcap : len ≤ cap) (hfull : full = true → cap = len)
  (hc : ∀ j, j < ds.length → w.cell? (Bn b (o + j)) = some (xs j) ∧ F b (o + j)) (hr : ∀ (j : Nat) (y : DV), ds[j]? = some y → RD F w y (xs j)) :
  RD F w (.sl sz full (chunk sz len ds)) (.slice (some (Bn b o)) len cap) := by
 have hin : ∀ i j, i < len → j < sz → i * sz + j < ds.length := by
  intro i j hi hj
  rw [hlen]
  calc i * sz + j < i * sz + sz := by omega
   _ = (i + 1) * sz := by rw [Nat.add_mul, Nat.one_mul]
   _ ≤ len * sz := Nat.mul_le_mul_right _ hi
 refine .sl sz full _ b o len cap (fun i j => xs (i * sz + j)) (chunk_length _ _ _).symm hcap hfull (fun i r hi => ?_) (fun i j r hi hj => ?_) (fun i j r y hi hj => ?_)
 ·obtain ⟨h1, h2⟩ := chunk_get _ _ _ _ _ hi
  subst h2
  have hle : i * sz + sz ≤ ds.length := by
   rw [hlen]
   calc i * sz + sz = (i + 1) * sz := by rw [Nat.add_mul, Nat.one_mul]
    _ ≤ len * sz := Nat.mul_le_mul_right _ h1
  simp; omega
 ·obtain ⟨h1, h2⟩ := chunk_get _ _ _ _ _ hi
  have := hc (i * sz + j) (hin i j h1 hj)
  simpa [Nat.add_assoc] using this
 ·obtain ⟨h1, h2⟩ := chunk_get _ _ _ _ _ hi
  subst h2
  rw [List.getElem?_take] at hj
  split at hj
  ·rw [List.getElem?_drop] at hj; exact hr _ _ hj
  ·cases hj
theorem newVar_obj {elem : TypeId} {cs : List AV} {vs : List Value} {w0 : World} (s : Nat) (hI : Inv C B K gh h w) (hw : Grows w w0 (.cells vs.toArray elem (0, 0))) (hl : RL gh w cs vs) :
  ∃ gh', Stp B gh w gh' w0 ∧ Inv C B K gh' (h.push s (.cells cs false)) w0 ∧ gh'.J s (h.count s) = some w.heap.size ∧ gh'.Z w.heap.size = vs.length := by
 obtain ⟨k, hI', hJ⟩ := hI.newObj (o := .cells cs false) s hw (fun k => ⟨vs, [], elem, by simpa using hw.new, by simp [Gh.addJ_Z, osize], hl.mono k, fun _ x hx => by
  have := hI.fsize w.heap.size x hx
  omega⟩)
 exact ⟨_, k, hI', hJ, by simp [Gh.addJ_Z, osize]⟩
theorem alloc_out {t : TypeId} {z : Value} (s : Nat) (hI : Inv C B K gh h w) (hz : BL C t = some z) :
  Out C B K gh (h.push s (.cells (z.cells.toList.map fun c => .d (.v c)) false)) w (.ptr s (h.count s) 0) ((do let x ← Instr.alloc t true (.tuple #[]); pure (Next.value x) : Sem Next).run C.P w) := by
 obtain ⟨gh', k, hI', hJ, _⟩ := newVar_obj (elem := t) s hI (w0 := w.alloc (.cells z.cells t)) (vs := z.cells.toList) (by simpa using Grows.alloc w _) (RL.of_plain z.cells.toList)
 exact ⟨_, _, gh', .inl (by simp [Instr.alloc, run_zeroT hz, newVar, newRow]), k, hI', .ptr s _ 0 _ hJ⟩
theorem box_out {t : TypeId} {a : AV} {v : Value} (s : Nat) (hI : Inv C B K gh h w) (ha : RA gh w a v) (hc : (AX a).all isCell = true) :
  Out C B K gh (h.push s (.cells (AX a) false)) w (.ptr s (h.count s) 0) ((do let x ← Instr.box t v; pure (Next.value x) : Sem Next).run C.P w) := by
 obtain ⟨gh', k, hI', hJ, _⟩ := newVar_obj (elem := t) s hI (w0 := w.alloc (.cells v.cells t)) (vs := v.cells.toList) (by simpa using Grows.alloc w _) (ha.cells hc).1
 exact ⟨_, _, gh', .inl (by simp [Instr.box, newVar, newRow]), k, hI', .ptr s _ 0 _ hJ⟩
theorem RA.of_RL {cs : List AV} {vs : Array Value} (hl : RL gh w cs vs.toList) : RA gh w (.agg cs) (.agg vs) := by
 have := RA.agg cs vs.toList hl.1 hl.2
 simpa using this
theorem aPart_out {t : TypeId} {cs : List AV} {vs : Array Value} {off : Nat} {a : AV} (hl : RL gh w cs vs.toList) (ha : aPart C t cs off = some a) :
  ∃ v, (part t vs off).run C.P w = .ok v w ∧ RA gh w a v := by
 unfold aPart at ha
 split at ha
 ·rename_i n e1 e2
  cases e3 : BQ cs off n with
  | none => simp [e3] at ha
  | some l =>
   simp only [e3, Option.some.injEq] at ha; subst ha
   obtain ⟨h1, h2, h3⟩ := takeCells_eq e3
   refine ⟨.agg (vs.extract off (off + n)), by simp [part, run_isAggT e1, Bi e2], .of_RL ⟨?_, fun i y x hy hx => ?_⟩⟩
   ·have := hl.1; simp at this; simp [h2]; omega
   ·obtain ⟨hi, hg⟩ := h3 i y hy
    refine hl.2 (off + i) y x hg ?_
    simp only [Array.toList_extract, List.extract_eq_take_drop, List.getElem?_take, List.getElem?_drop] at hx
    split at hx
    ·exact hx
    ·cases hx
 ·rename_i e1
  obtain ⟨v, hv, hr⟩ := hl.get ha
  exact ⟨v, by simp at hv; simp [part, run_isAggT e1, hv], hr⟩
 ·cases ha
theorem allSome_fields {fs : List Field} {ps : AC} (hp : Ae (fun (f : Field) => match AR C f.type with | some n => some (f.offset, n) | none => none) fs = some ps) :
  (List.mapM (fun f => Prod.mk f.offset <$> sizeOf f.type) fs : Sem (AC)).run C.P w = .ok ps w := by
 induction fs generalizing ps with
 | nil => simp [Ae] at hp; subst hp; simp
 | cons f fs ih =>
  simp only [Ae] at hp
  cases e : AR C f.type with
  | none => simp [e] at hp
  | some n =>
   simp only [e] at hp
   cases e2 : Ae (fun (f : Field) => match AR C f.type with | some n => some (f.offset, n) | none => none) fs with
   | none => simp [e2] at hp
   | some l =>
    simp only [e2, Option.some.injEq] at hp
    subst hp
    have := ih e2
    simp [List.mapM_cons, Bi e] at this ⊢
    simp [this]
theorem build_out {t : TypeId} {z : Value} {cs : List AV} {parts : Array (Nat × Operand)} {ρ : Operand → AV} {ρc : Operand → Value} (hI : Inv C B K gh h w) (hρ : ∀ x, RA gh w (ρ x) (ρc x))
  (hz : BL C t = some z)
  (hb : (∃ fs places, C.P.underlying t = some (.struct fs) ∧ Ae (fun (f : Field) => match AR C f.type with | some n => some (f.offset, n) | none => none) fs.toList = some places ∧
    aFill (places[·]?) (z.cells.toList.map fun c => .d (.v c)) (parts.toList.map fun p => (p.1, ρ p.2)) = some cs) ∨
   (∃ m elem n, C.P.underlying t = some (.array m elem) ∧ AR C elem = some n ∧ aFill (fun i => some (i * n, n)) (z.cells.toList.map fun c => .d (.v c)) (parts.toList.map fun p => (p.1, ρ p.2)) = some cs)) :
  ∃ v, (Instr.build t (parts.map fun (i, x) => (i, ρc x))).run C.P w = .ok v w ∧ RA gh w (.agg cs) v := by
 have hparts : ∀ (i : Nat) p q, (parts.toList.map fun p => (p.1, ρ p.2))[i]? = some p → (parts.toList.map fun p => (p.1, ρc p.2))[i]? = some q → p.1 = q.1 ∧ RA gh w p.2 q.2 := by
  intro i p q hp hq
  simp only [List.getElem?_map, Option.map_eq_some_iff] at hp hq
  obtain ⟨x, hx, rfl⟩ := hp
  obtain ⟨y, hy, rfl⟩ := hq
  rw [hx] at hy; simp at hy; subst hy
  exact ⟨rfl, hρ _⟩
 rcases hb with ⟨fs, places, e1, e2, e3⟩ | ⟨m, elem, n, e1, e2, e3⟩
 ·obtain ⟨vs, hv, hl⟩ := fill_out (vcells := z.cells) (RL.of_plain z.cells.toList) (by simp) hparts e3
  refine ⟨.agg vs, ?_, .of_RL hl⟩
  have hm : (fs.mapM fun f => do pure (f.offset, ← sizeOf f.type) : Sem (Array (Nat × Nat))).run C.P w = .ok places.toArray w := by
   rw [Array.mapM_eq_mapM_toList]
   simp [allSome_fields e2]
  simp only [Instr.build, Sem.run_bind, run_zeroT hz, Result.andThen_ok, AB e1, hm]
  have : (places.toArray[·]?) = fun i : Nat => places[i]? := by funext i; simp
  simp [this, hv]
 ·obtain ⟨vs, hv, hl⟩ := fill_out (vcells := z.cells) (RL.of_plain z.cells.toList) (by simp) hparts e3
  refine ⟨.agg vs, ?_, .of_RL hl⟩
  simp only [Instr.build, Sem.run_bind, run_zeroT hz, Result.andThen_ok, AB e1, Bi e2]
  simp [hv]
end Go.Ev
namespace Go.Ev
open Go Go.RowKit
variable {C : Ctx} {B : Nat} {K : List Nat} {gh : Gh} {h : H} {w : World}
theorem newSlice_out {t elem : TypeId} {cs : List AV} {vs : List Value} {ds : List DV} {sz len : Nat} {w0 : World} (hI : Inv C B K gh h w) (hw : Grows w w0 (.cells vs.toArray elem (0, 0)))
  (hl : RL gh w cs vs) (hd : Ae cellD cs = some ds) (hlen : cs.length = len * sz) :
  ∃ gh', Stp B gh w gh' w0 ∧ Inv C B K gh' h w0 ∧ RA gh' w0 (.d (.sl sz true (chunk sz len ds))) (.slice (some (Bn w.heap.size 0)) len len) := by
 obtain ⟨k, hI'⟩ := hI.newData (n := vs.length) hw
 refine ⟨_, k, hI', .d _ _ ?_⟩
 obtain ⟨d1, d2⟩ := Cn hd
 have l1 := hl.1
 refine RD.rows (xs := fun j => vs.getD j undef) (by omega) (Nat.le_refl _) (fun _ => rfl) (fun j hj => ⟨?_, .inr ⟨rfl, by omega⟩⟩) (fun j y hy => ?_)
 ·have : j < vs.length := by omega
  simp [cell_of_row w0 _ _ _ _ _ hw.new, this]
 ·have hj : j < cs.length := by have := (List.getElem?_eq_some_iff.1 hy).1; omega
  have hv : vs[j]? = some vs[j] := List.getElem?_eq_getElem (by omega)
  have hr := hl.2 j cs[j] vs[j] (List.getElem?_eq_getElem hj) hv
  have := (cellD_rel (d2 j cs[j] y (List.getElem?_eq_getElem hj) hy) hr).mono k.le.F k.same
  simpa [List.getD, hv] using this
theorem newHs_out {elem : TypeId} {cs : List AV} {vs : List Value} {sz len : Nat} {w0 : World} (s : Nat) (hI : Inv C B K gh h w) (hw : Grows w w0 (.cells vs.toArray elem (0, 0)))
  (hl : RL gh w cs vs) (hlen : len * sz ≤ vs.length) :
  ∃ gh', Stp B gh w gh' w0 ∧ Inv C B K gh' (h.push s (.cells cs false)) w0 ∧ RA gh' w0 (.hs s (h.count s) 0 len sz) (.slice (some (Bn w.heap.size 0)) len len) := by
 obtain ⟨gh', k, hI', hJ, hZ⟩ := newVar_obj s hI hw hl
 exact ⟨gh', k, hI', .hs _ _ _ _ _ _ _ _ hJ (Nat.le_refl _) (fun _ => rfl) (by rw [hZ]; simpa using hlen)⟩
theorem run_buildSlice {t elem : TypeId} {n len : Nat} {z : Value} {cs : List AV} {parts : Array (Nat × Operand)} {ρ : Operand → AV} {ρc : Operand → Value} (hρ : ∀ x, RA gh w (ρ x) (ρc x))
  (ht : C.P.underlying t = some (.slice elem)) (hn : AR C elem = some n) (hz : BL C elem = some z) (h0 : 0 < n) (hzn : z.cells.size = n) (hle : len * n ≤ 2 ^ 20)
  (hf : aFill (fun i => some (i * n, n)) ((List.replicate len (z.cells.toList.map fun c => AV.d (.v c))).flatten) (parts.toList.map fun p => (p.1, ρ p.2)) = some cs) :
  ∃ vs : Array Value, (Instr.buildSlice t len (parts.map fun (i, x) => (i, ρc x))).run C.P w = .ok (.slice (some (Bn w.heap.size 0)) len len) (w.alloc (.cells vs elem)) ∧ RL gh w cs vs.toList := by
 have hparts : ∀ (i : Nat) p q, (parts.toList.map fun p => (p.1, ρ p.2))[i]? = some p → (parts.toList.map fun p => (p.1, ρc p.2))[i]? = some q → p.1 = q.1 ∧ RA gh w p.2 q.2 := by
  intro i p q hp hq
  simp only [List.getElem?_map, Option.map_eq_some_iff] at hp hq
  obtain ⟨x, hx, rfl⟩ := hp
  obtain ⟨y, hy, rfl⟩ := hq
  rw [hx] at hy; simp at hy; subst hy
  exact ⟨rfl, hρ _⟩
 have hm := made_eq z.cells len
 rw [hzn] at hm
 obtain ⟨vs, hv, hl⟩ := fill_out (vcells := (Array.range (len * n)).map (z.cells[· % z.cells.size]!)) (by rw [hzn, hm]; exact plain_flatten _ _) (by simp) hparts hf
 refine ⟨vs, ?_, hl⟩
 by_cases hl0 : len * n = 0
 ·have e : ((Array.range (len * n)).map (z.cells[· % z.cells.size]!)) = ((Array.range (len * n)).map ((#[] : Array Value)[· % (#[] : Array Value).size]!)) := by rw [hl0]; simp
  have r0 : Array.range 0 = #[] := rfl
  rw [e, hl0, r0] at hv
  simp only [Array.map_empty] at hv
  simp [Instr.buildSlice, AB ht, Bi hn, hl0, r0, hv, newRow]
 ·have hb : ¬ (16777216 < len * n) := by omega
  simp [Instr.buildSlice, AB ht, Bi hn, hb, hl0, run_zeroT hz, hv, newRow]
theorem addOff_rel {a a' : AV} {v : Value} {n : Nat} (ha : RA gh w a v) (e : addOff a n = some a') : ∃ b o, v = .pointer (some (Bn b o)) ∧ RA gh w a' (.pointer (some (Bn b (o + n)))) := by
 unfold addOff at e
 split at e
 ·simp at e; subst e
  cases ha with
  | ptr s g off b hJ => exact ⟨b, _, rfl, .ptr _ _ _ _ hJ⟩
 ·simp at e; subst e
  cases ha with
  | pin row off b o xs hc hr => exact ⟨b, _, rfl, by rw [Nat.add_assoc]; exact .pin _ _ _ _ xs hc hr⟩
 ·simp at e; subst e
  exact ⟨_, _, ha.eq_v, .v _⟩
 ·cases e
theorem fieldAddr_out {t : TypeId} {a a' : AV} {v : Value} {f : Nat} (ha : RA gh w a v) (e : fieldAddrOp C t a f = some a') :
  ∃ x, (Instr.fieldAt t v f).run C.P w = .ok x w ∧ RA gh w a' x := by
 unfold fieldAddrOp at e
 split at e
 ·rename_i fs e1
  split at e
  ·rename_i fd e2
   split at e
   ·rename_i n e3
    split at e
    ·cases e
    ·rename_i h0
     obtain ⟨b, o, rfl, hr⟩ := addOff_rel ha e
     exact ⟨_, by simp [Instr.fieldAt, AB e1, e2, Instr.sureAddr, fieldPlace, Bi e3, h0, Addr.add_lit], hr⟩
   ·cases e
  ·cases e
 ·cases e
theorem intOfA_eq {a : AV} {v : Value} {n : Int} (e : intOfA a = some n) (ha : RA gh w a v) : ∃ k, v = .int k n := by
 unfold intOfA at e
 split at e
 ·simp at e; subst e; exact ⟨_, ha.eq_v⟩
 ·cases e
theorem indexAddr_out {t : TypeId} {a i a' : AV} {v iv : Value} (ha : RA gh w a v) (hi : RA gh w i iv) (e : BX C t a i = some a') :
  ∃ x, (Instr.indexAt t v iv).run C.P w = .ok x w ∧ RA gh w a' x := by
 unfold BX at e
 split at e
 ·rename_i n len elem e1 e2
  split at e
  ·rename_i sz e3
   split at e
   ·rename_i hb
    obtain ⟨k, rfl⟩ := intOfA_eq e1 hi
    obtain ⟨b, o, rfl, hr⟩ := addOff_rel ha e
    exact ⟨_, by simp [Instr.indexAt, asIntOf, AB e2, Instr.sureAddr, hb, Bi e3, Addr.add_lit], hr⟩
   ·cases e
  ·cases e
 ·rename_i n elem e1 e2
  obtain ⟨k, rfl⟩ := intOfA_eq e1 hi
  split at e
  ·rename_i sz e3
   have byval : ∀ (rows : A8) (b o len cap : Nat) (full : Bool), RD gh.F w (.sl sz full rows) (.slice (some (Bn b o)) len cap) → 0 ≤ n → n < rows.length →
     (match rows[n.toNat]? with | some r => some (AV.pin r 0) | none => none) = some a' → ∃ x, (Instr.indexAt t (.slice (some (Bn b o)) len cap) (.int k n)).run C.P w = .ok x w ∧ RA gh w a' x := by
    intro rows b o len cap full hd h0 h1 e
    cases hd with
    | sl _ _ _ _ _ _ _ xs hlen hcap hfull hsz hc hr =>
     split at e
     ·rename_i r hr'
      simp at e; subst e
      have hlt : n < (len : Int) := by omega
      refine ⟨.pointer (some (Bn b (o + n.toNat * sz))), by simp [Instr.indexAt, asIntOf, AB e2, h0, hlt, Bi e3, Addr.add_lit], ?_⟩
      have hs := hsz _ _ hr'
      have := RA.pin (gh := gh) (w := w) r 0 b (o + n.toNat * sz) (fun j => xs n.toNat j) (fun j hj => hc _ j r hr' (by omega)) (fun j y hy => hr _ _ _ _ hr' hy)
      simpa using this
     ·cases e
   split at e
   ·rename_i sz' full rows
    split at e
    ·rename_i hb
     obtain ⟨rfl, h0, h1⟩ := hb
     cases ha with
     | d _ _ hd =>
      cases hd with
      | sl _ _ _ b o len cap xs hlen hcap hfull hsz hc hr => exact byval rows b o len cap full (.sl _ _ _ b o len cap xs hlen hcap hfull hsz hc hr) h0 h1 e
    ·cases e
   ·rename_i sz' rows s g
    split at e
    ·rename_i hb
     obtain ⟨rfl, h0, h1⟩ := hb
     cases ha with
     | st _ _ _ _ b len cap hd ht => exact byval rows b 0 len cap false hd h0 h1 e
    ·cases e
   ·rename_i s g off len sz'
    split at e
    ·rename_i hb
     obtain ⟨rfl, h0, h1⟩ := hb
     simp at e; subst e
     cases ha with
     | hs _ _ _ _ _ b o cap hJ hcap ho hz =>
      obtain rfl : o = off := ho (by omega)
      exact ⟨_, by simp [Instr.indexAt, asIntOf, AB e2, h0, h1, Bi e3, Addr.add_lit], .ptr _ _ _ _ hJ⟩
    ·cases e
   ·rename_i sz' rows
    split at e
    ·rename_i hb
     obtain ⟨rfl, h0, h1⟩ := hb
     cases ha with
     | d _ _ hd =>
      cases hd with
      | mn0 => simp at h1; omega
      | mne => simp at h1; omega
      | mn _ _ _ hd =>
       cases hd with
       | sl _ _ _ b o len cap xs hlen hcap hfull hsz hc hr => exact byval rows b o len cap false (.sl _ _ _ b o len cap xs hlen hcap hfull hsz hc hr) h0 h1 e
    ·cases e
   ·cases e
  ·cases e
 ·cases e
theorem len_out {t : TypeId} {a : AV} {v : Value} {n : Nat} {ts : Array TypeId} {ty : TypeId} (hts : ts[0]? = some t) (hI : Inv C B K gh h w) (ha : RA gh w a v) (e : lenOp C t h a = some n) :
  (Builtin.len_ ts ty #[v]).run C.P w = .ok (.int .i64 n) w := by
 unfold lenOp at e
 split at e
 ·rename_i el sz full rows e1
  simp at e; subst e
  cases ha with
  | d _ _ hd =>
   cases hd with
   | sl _ _ _ b o len cap xs hlen hcap hfull hsz hc hr => simp [Builtin.len_, hts, AB e1, goInt, hlen]
 ·rename_i el sz rows s g e1
  simp at e; subst e
  cases ha with
  | st _ _ _ _ b len cap hd ht =>
   cases hd with
   | sl _ _ _ _ _ _ _ xs hlen hcap hfull hsz hc hr => simp [Builtin.len_, hts, AB e1, goInt, hlen]
 ·rename_i el s g off len sz e1
  simp at e; subst e
  cases ha with
  | hs _ _ _ _ _ b o cap hJ hcap ho hz => simp [Builtin.len_, hts, AB e1, goInt]
 ·rename_i kt et es e1
  simp at e; subst e
  cases ha with
  | d _ _ hd =>
   cases hd with
   | mp _ b ms clock xs hb hF hl he hr hw => simp [Builtin.len_, hts, AB e1, goInt, getObj, Sem.run, hb, hl]
 ·rename_i kt et s g e1
  cases eg : h.get s g with
  | none => simp [eg] at e
  | some o =>
   cases o with
   | map es fz =>
    simp only [eg, Option.some.injEq] at e; subst e
    cases ha with
    | mp _ _ b hJ =>
     obtain ⟨o', h1, _, h3⟩ := hI.dom s g b hJ
     rw [eg] at h1; obtain rfl : AO.map es fz = o' := by simpa using h1
     obtain ⟨ms, c, xs, hb, hl, _⟩ := h3
     simp [Builtin.len_, hts, AB e1, goInt, getObj, Sem.run, hb, hl]
   | _ => simp [eg] at e
 ·rename_i el sz rows e1
  simp at e; subst e
  cases ha with
  | d _ _ hd =>
   cases hd with
   | mn0 => simp [Builtin.len_, hts, AB e1, goInt]
   | mne => simp [Builtin.len_, hts, AB e1, goInt]
   | mn _ _ _ hd =>
    cases hd with
    | sl _ _ _ b o len cap xs hlen hcap hfull hsz hc hr => simp [Builtin.len_, hts, AB e1, goInt, hlen]
 ·cases e
inductive NilV : TypeDesc → Bool → Value → Prop
 | slice (e : TypeId) (a : Option Addr) (l c : Nat) : NilV (.slice e) a.isNone (.slice a l c)
 | map (k e : TypeId) (m : Option Nat) : NilV (.map k e) m.isNone (.map m)
 | func (a b : Array TypeId) (c : Bool) (f : Fn) (x y : Array Value) : NilV (.func a b c) false (.func f x y)
 | nilFunc (a b : Array TypeId) (c : Bool) : NilV (.func a b c) true .nilFunc
 | pointer (e : TypeId) (a : Option Addr) : NilV (.pointer e) a.isNone (.pointer a)
theorem nil_rel {td : TypeDesc} {a : AV} {v : Value} {b : Bool} (hn : BM a = some b) (hk : nilKind td a = true) (ha : RA gh w a v) : NilV td b v := by
 unfold nilKind at hk
 split at hk
 ·cases ha with
  | d _ _ hd => cases hd with
   | sl _ _ _ b o len cap => simp [BM] at hn; subst hn; exact .slice _ (some _) _ _
 ·cases ha with
  | st _ _ _ _ b len cap => simp [BM] at hn; subst hn; exact .slice _ (some _) _ _
 ·cases ha with
  | hs _ _ _ _ _ b o cap => simp [BM] at hn; subst hn; exact .slice _ (some _) _ _
 ·simp [BM] at hn; subst hn; rw [ha.eq_v]; exact .slice _ none _ _
 ·cases ha with
  | d _ _ hd => cases hd with
   | mp _ b => simp [BM] at hn; subst hn; exact .map _ _ (some _)
 ·cases ha with
  | mp _ _ b => simp [BM] at hn; subst hn; exact .map _ _ (some _)
 ·simp [BM] at hn; subst hn; rw [ha.eq_v]; exact .map _ _ none
 ·cases ha with
  | fn f as cs avs cvs => simp [BM] at hn; subst hn; exact .func _ _ _ _ _ _
  | yield s g b => simp [BM] at hn; subst hn; exact .func _ _ _ _ _ _
 ·simp [BM] at hn; subst hn; rw [ha.eq_v]; exact .nilFunc _ _ _
 ·cases ha with
  | ptr _ _ _ b => simp [BM] at hn; subst hn; exact .pointer _ (some _)
 ·cases ha with
  | pin _ _ b o => simp [BM] at hn; subst hn; exact .pointer _ (some _)
 ·simp [BM] at hn; subst hn; rw [ha.eq_v]; exact .pointer _ none
 ·cases hk
theorem eqNil_run {d : Nat} {t : TypeId} {td : TypeDesc} {x y : Value} {b1 b2 : Bool} (ht : C.P.underlying t = some td) (h1 : NilV td b1 x) (h2 : NilV td b2 y) (hn : b1 = true ∨ b2 = true) :
  (Op.equalIn (d + 1) t x y).run C.P w = .ok (b1 && b2) w := by
 unfold Op.equalIn
 rw [Sem.run_bind, AB ht, Result.andThen_ok]
 cases h1 <;> cases h2
 ·rename_i e a l c a' l' c'
  cases a <;> cases a' <;> first | rfl | (simp at hn)
 ·rename_i k e m m'
  cases m <;> cases m' <;> first | rfl | (simp at hn)
 ·simp at hn
 ·rfl
 ·rfl
 ·rfl
 ·rename_i e a a'
  cases a <;> cases a' <;> first | rfl | (simp at hn)
theorem eqNil_rel {t : TypeId} {x y : AV} {xv yv : Value} {b : Bool} (hx : RA gh w x xv) (hy : RA gh w y yv) (e : eqNil C t x y = some b) :
  ∃ td b1 b2, C.P.underlying t = some td ∧ NilV td b1 xv ∧ NilV td b2 yv ∧ (b1 = true ∨ b2 = true) ∧ b = (b1 && b2) := by
 unfold eqNil at e
 split at e
 ·rename_i td b2 e1 e2 e3
  split at e
  ·rename_i hk
   simp at e hk; subst e
   exact ⟨td, true, _, e1, nil_rel e2 hk.1 hx, nil_rel e3 hk.2 hy, .inl rfl, by simp⟩
  ·cases e
 ·rename_i td b1 _ e1 e2 e3
  split at e
  ·rename_i hk
   simp at e hk; subst e
   exact ⟨td, _, true, e1, nil_rel e2 hk.1 hx, nil_rel e3 hk.2 hy, .inr rfl, by simp⟩
  ·cases e
 ·cases e
theorem eqGuard_nil {op : BinOp} {t : TypeId} {td : TypeDesc} {x y : Operand} {xv yv : Value} {b1 b2 : Bool} (h1 : NilV td b1 xv) (h2 : NilV td b2 yv) : (eqGuard op t x y xv yv).run C.P w = .ok () w := by
 cases h1 <;> cases h2 <;> cases op <;> rfl
theorem binEql_nil {t : TypeId} {td : TypeDesc} {xv yv : Value} {b1 b2 : Bool} (ht : C.P.underlying t = some td) (h1 : NilV td b1 xv) (h2 : NilV td b2 yv) (hn : b1 = true ∨ b2 = true) :
  (binOp .eql t xv yv).run C.P w = .ok (.bool (b1 && b2)) w ∧ (binOp .neq t xv yv).run C.P w = .ok (.bool (!(b1 && b2))) w := by
 have he : (Op.equal t xv yv).run C.P w = .ok (b1 && b2) w := eqNil_run (d := 9999) (w := w) ht h1 h2 hn
 have f1 : binOp .eql t xv yv = (do pure (.bool (← Op.equal t xv yv))) := by cases h1 <;> cases h2 <;> rfl
 have f2 : binOp .neq t xv yv = (do pure (.bool (!(← Op.equal t xv yv)))) := by cases h1 <;> cases h2 <;> rfl
 rw [f1, f2]
 simp [he]
end Go.Ev
namespace Go.Ev
open Go Go.RowKit
variable {C : Ctx} {B : Nat} {K : List Nat} {gh : Gh} {h : H} {w : World}
theorem BR {ρ : Operand → AV} {ρc : Operand → Value} (hρ : ∀ x, RA gh w (ρ x) (ρc x)) {x : Operand} {d n y : Nat} {code : BoundsCode} (e : Bt ρ d (some x) = some n) (hy : n ≤ y) :
  (Instr.sliceBound (ρc x) y code).run C.P w = .ok n w := by
 unfold Bt at e
 split at e
 ·rename_i h; cases h
 ·rename_i z hz
  cases hz
  split at e
  ·rename_i i hi
   split at e
   ·rename_i h0
    simp at e; subst e
    obtain ⟨k, hk⟩ := intOfA_eq hi (hρ x)
    have : i ≤ (y : Int) := by omega
    simp [Instr.sliceBound, hk, asIntOf, h0, this]
   ·cases e
  ·cases e
theorem sliceBounds_run {ρ : Operand → AV} {ρc : Operand → Value} (hρ : ∀ x, RA gh w (ρ x) (ρc x)) {lo hi mx : Option Operand} {n l hh m cap : Nat} {isS : Bool}
  (e1 : Bt ρ 0 lo = some l) (e2 : Bt ρ n hi = some hh) (e3 : Bt ρ n mx = some m) (h1 : l ≤ hh) (h2 : hh ≤ m) (h3 : m ≤ n) (h4 : n ≤ cap) (h5 : mx.isSome → hi.isSome) :
  (Instr.sliceBounds isS n cap (lo.map ρc) (hi.map ρc) (mx.map ρc)).run C.P w = .ok (l, hh, if mx.isSome then m else cap) w := by
 cases mx with
 | none =>
  simp only [Bt, Option.some.injEq] at e3
  cases hi with
  | none =>
   simp only [Bt, Option.some.injEq] at e2
   cases lo with
   | none => simp only [Bt, Option.some.injEq] at e1; subst e1; subst e2; simp [Instr.sliceBounds]
   | some z => subst e2; simp [Instr.sliceBounds, fun code => BR (C := C) (code := code) hρ e1 h1]
  | some y =>
   have f2 := fun code => BR (C := C) (code := code) hρ e2 (show hh ≤ cap by omega)
   cases lo with
   | none => simp only [Bt, Option.some.injEq] at e1; subst e1; simp [Instr.sliceBounds, f2]
   | some z => simp [Instr.sliceBounds, f2, fun code => BR (C := C) (code := code) hρ e1 h1]
 | some x =>
  have f3 := fun code => BR (C := C) (code := code) hρ e3 (show m ≤ cap by omega)
  cases hi with
  | none => simp at h5
  | some y =>
   have f2 := fun code => BR (C := C) (code := code) hρ e2 h2
   cases lo with
   | none => simp only [Bt, Option.some.injEq] at e1; subst e1; simp [Instr.sliceBounds, f2, f3]
   | some z => simp [Instr.sliceBounds, f2, f3, fun code => BR (C := C) (code := code) hρ e1 h1]
theorem RD.sub {F : Nat → Nat → Prop} {sz : Nat} {full full' : Bool} {rows : A8} {b o len cap l hh o' cap' : Nat} (hd : RD F w (.sl sz full rows) (.slice (some (Bn b o)) len cap)) (h1 : l ≤ hh) (h2 : hh ≤ len)
  (ho : l < hh → o' = o + l * sz) (hcap : hh - l ≤ cap') (hfull : full' = true → cap' = hh - l) : RD F w (.sl sz full' ((rows.drop l).take (hh - l))) (.slice (some (Bn b o')) (hh - l) cap') := by
 cases hd with
 | sl _ _ _ _ _ _ _ xs hlen _ _ hsz hc hr =>
  have hg : ∀ i r, ((rows.drop l).take (hh - l))[i]? = some r → i < hh - l ∧ rows[l + i]? = some r := by
   intro i r hi
   rw [List.getElem?_take] at hi
   split at hi
   ·rename_i h; exact ⟨h, by simpa using hi⟩
   ·cases hi
  refine .sl _ _ _ _ _ _ _ (fun i j => xs (l + i) j) (by simp; omega) hcap hfull (fun i r hi => hsz _ _ (hg i r hi).2) (fun i j r hi hj => ?_) (fun i j r y hi hj => hr _ _ _ _ (hg i r hi).2 hj)
  obtain ⟨g1, g2⟩ := hg i r hi
  have := hc _ j r g2 hj
  rw [ho (by omega)]
  rw [show o + l * sz + i * sz + j = o + (l + i) * sz + j by rw [Nat.add_mul]; omega]
  exact this
theorem slice_out {t : TypeId} {a a' : AV} {v : Value} {ρ : Operand → AV} {ρc : Operand → Value} {lo hi mx : Option Operand} (hρ : ∀ x, RA gh w (ρ x) (ρc x)) (ha : RA gh w a v)
  (e : sliceOp C t a ρ lo hi mx = some a') : ∃ x, (Instr.sliceAt t v (lo.map ρc) (hi.map ρc) (mx.map ρc)).run C.P w = .ok x w ∧ RA gh w a' x := by
 unfold sliceOp at e
 split at e
 ·rename_i elem n e1 en
  split at e
  ·rename_i l hh m sz b1 b2 b3 b4
   split at e
   ·rename_i hcond
    obtain ⟨c1, c2, c3, c4⟩ := hcond
    have hrun : ∀ (b o cap : Nat), n ≤ cap → (Instr.sliceAt t (.slice (some (Bn b o)) n cap) (lo.map ρc) (hi.map ρc) (mx.map ρc)).run C.P w =
      .ok (.slice (some (if (if mx.isSome then m else cap) = l then Bn b o else Bn b (o + l * sz))) (hh - l) ((if mx.isSome then m else cap) - l)) w := by
     intro b o cap hcap
     have hs := sliceBounds_run (C := C) (isS := true) hρ b1 b2 b3 c1 c2 c3 hcap c4
     simp only [Instr.sliceAt, Sem.run_bind, AB e1, Result.andThen_ok, Instr.slice, hs, Bi b4, Sem.run_pure]
     generalize (if mx.isSome = true then m else cap) = c
     by_cases hc : c = l <;> simp [hc, Addr.add_lit]
    have haddr : ∀ (b o c : Nat), ∃ o', (some (if c = l then Bn b o else Bn b (o + l * sz))) = some (Bn b o') ∧ (c ≠ l → o' = o + l * sz) := by
     intro b o c
     split
     ·rename_i h; exact ⟨o, rfl, fun h' => absurd h h'⟩
     ·exact ⟨_, rfl, fun _ => rfl⟩
    split at e
    ·rename_i sz' full rows
     split at e
     ·rename_i hsz; subst hsz
      simp at e; subst e
      cases ha with
      | d _ _ hd =>
       cases hd with
       | sl _ _ _ b o len cap xs hlen hcap hfull hsz hc hr =>
        simp [lenA] at en
        subst en
        rw [← hlen] at hrun c3 b2 b3
        obtain ⟨o', ho1, ho2⟩ := haddr b o (if mx.isSome then m else cap)
        refine ⟨_, hrun b o cap hcap, ?_⟩
        rw [ho1]
        have hd : RD gh.F w (.sl sz' full rows) (.slice (some (Bn b o)) len cap) := .sl _ _ _ b o len cap xs hlen hcap hfull hsz hc hr
        refine .d _ _ (hd.sub c1 (by omega) (fun hlt => ho2 ?_) ?_ ?_)
        ·split <;> omega
        ·split <;> omega
        ·intro hf
         simp at hf
         cases mx with
         | none =>
          simp at hf ⊢
          have := hfull hf.1
          omega
         | some x => simp at hf ⊢; omega
     ·cases e
    ·rename_i sz' rows s g
     split at e
     ·rename_i hsz; subst hsz
      simp at e; subst e
      cases ha with
      | st _ _ _ _ b len cap hd ht =>
       have hd' := hd
       cases hd with
       | sl _ _ _ _ _ _ _ xs hlen hcap hfull hsz hc hr =>
        simp [lenA] at en
        subst en
        rw [← hlen] at hrun c3 b2 b3
        obtain ⟨o', ho1, ho2⟩ := haddr b 0 (if mx.isSome then m else cap)
        refine ⟨_, hrun b 0 cap hcap, ?_⟩
        rw [ho1]
        refine .d _ _ (hd'.sub c1 (by omega) (fun hlt => ho2 ?_) ?_ ?_)
        ·split <;> omega
        ·split <;> omega
        ·intro hf
         simp at hf
         cases mx with
         | none => simp at hf
         | some x => simp at hf ⊢; omega
     ·cases e
    ·rename_i s g off len sz'
     split at e
     ·rename_i hsz; subst hsz
      simp at e; subst e
      cases ha with
      | hs _ _ _ _ _ b o cap hJ hcap ho hz =>
       simp [lenA] at en
       subst en
       obtain ⟨o', ho1, ho2⟩ := haddr b o (if mx.isSome then m else cap)
       refine ⟨_, hrun b o cap hcap, ?_⟩
       rw [ho1]
       refine .hs _ _ _ _ _ b o' ((if mx.isSome then m else cap) - l) hJ (by split <;> omega) (fun hlt => ?_) ?_
       ·rw [ho2 (by split <;> omega), ho (by omega)]
       ·have hcc : (if mx.isSome then m else cap) ≤ cap := by split <;> omega
        have hmul : (if mx.isSome then m else cap) * sz' ≤ cap * sz' := Nat.mul_le_mul_right _ hcc
        by_cases hcl : (if mx.isSome then m else cap) = l
        ·rw [if_pos hcl] at ho1
         simp at ho1
         rw [hcl, Nat.sub_self, Nat.zero_mul, ← ho1]; omega
        ·rw [ho2 hcl, Nat.sub_mul]
         have : l * sz' ≤ (if mx.isSome then m else cap) * sz' := Nat.mul_le_mul_right _ (by split <;> omega)
         omega
     ·cases e
    ·rename_i sz' rows
     split at e
     ·rename_i hsz
      obtain ⟨hsz, hpos⟩ := hsz
      subst hsz
      simp at e; subst e
      cases ha with
      | d _ _ hd =>
       cases hd with
       | mn0 => simp at hpos
       | mne => simp at hpos
       | mn _ _ _ hd =>
        cases hd with
        | sl _ _ _ b o len cap xs hlen hcap hfull hsz hc hr =>
         simp [lenA] at en
         subst en
         rw [← hlen] at hrun c3 b2 b3
         obtain ⟨o', ho1, ho2⟩ := haddr b o (if mx.isSome then m else cap)
         refine ⟨_, hrun b o cap hcap, ?_⟩
         rw [ho1]
         have hd : RD gh.F w (.sl sz' false rows) (.slice (some (Bn b o)) len cap) := .sl _ _ _ b o len cap xs hlen hcap hfull hsz hc hr
         refine .d _ _ (hd.sub c1 (by omega) (fun hlt => ho2 ?_) ?_ ?_)
         ·split <;> omega
         ·split <;> omega
         ·intro hf
          simp at hf
          cases mx with
          | none => simp at hf
          | some x => simp at hf ⊢; omega
     ·cases e
    ·cases e
   ·cases e
  ·cases e
 ·cases e
def MRel (gh : Gh) (w : World) (es : List (Value × Bool × List DV)) (ms : Array MapEntry) : Prop :=
 es.length = ms.size ∧ (∀ (i : Nat) e m, es[i]? = some e → ms[i]? = some m → m.key = e.1 ∧ (e.2.1 = true → ∃ vs, m.val = .agg vs) ∧ (e.2.1 = false → one m.val = true) ∧ ∃ xs : List Value, m.val.cells.toList = xs ∧ xs.length = e.2.2.length ∧ ∀ (j : Nat) y x, e.2.2[j]? = some y → xs[j]? = some x → RD gh.F w y x)
def dummy (es : List (Value × Bool × List DV)) : List MapEntry := es.map fun e => { key := e.1, val := undef, born := 0 }
theorem findNow_same (kind : TypeDesc) (k : Value) : ∀ (l1 l2 : List MapEntry) (i : Nat), l1.length = l2.length → (∀ (j : Nat) a b, l1[j]? = some a → l2[j]? = some b → a.key = b.key) →
  (∀ n u, Instr.findNow kind k l1 i = some (some (n, u)) → ∃ m, i ≤ n ∧ l2[n - i]? = some m ∧ Instr.findNow kind k l2 i = some (some (n, m.val))) ∧
  (Instr.findNow kind k l1 i = some none → Instr.findNow kind k l2 i = some none) ∧ (Instr.findNow kind k l1 i = none → Instr.findNow kind k l2 i = none)
 | [], [], i, _, _ => by simp [Instr.findNow]
 | [], b :: l2, i, hl, _ => by simp at hl
 | a :: l1, [], i, hl, _ => by simp at hl
 | a :: l1, b :: l2, i, hl, hk => by
  have hab := hk 0 a b rfl rfl
  obtain ⟨h1, h2, h3⟩ := findNow_same kind k l1 l2 (i + 1) (by simpa using hl) (fun j x y hx hy => hk (j + 1) x y (by simpa using hx) (by simpa using hy))
  simp only [Instr.findNow, hab]
  cases hs : Instr.sameNow kind k b.key with
  | none => simp
  | some t =>
   cases t
   ·simp only
    refine ⟨fun n u hn => ?_, h2, h3⟩
    obtain ⟨m, g1, g2, g3⟩ := h1 n u hn
    refine ⟨m, by omega, ?_, g3⟩
    rw [show n - i = (n - (i + 1)) + 1 by omega]
    simpa using g2
   ·simp only [Option.some.injEq, Prod.mk.injEq, reduceCtorEq, false_implies, and_self, and_true]
    rintro n u ⟨rfl, rfl⟩
    exact ⟨b, Nat.le_refl _, by simp, rfl, rfl⟩
theorem Bf {α β : Type} {P : Program} (x : Sem α) (f : α → Sem β) : Ar P (x >>= f) = match Ar P x with | some a => Ar P (f a) | none => none := by
 show Ar P (x.bind f) = _
 induction x with
 | pure a => rfl
 | program k ih => exact ih P
 | mark m k ih => exact ih
 | _ => rfl
theorem findAsking_same (kt : TypeId) (k : Value) : ∀ (l1 l2 : List MapEntry) (i : Nat), l1.length = l2.length → (∀ (j : Nat) a b, l1[j]? = some a → l2[j]? = some b → a.key = b.key) →
  (∀ n u, Ar C.P (Instr.findAsking kt k l1 i) = some (some (n, u)) → ∃ m, i ≤ n ∧ l2[n - i]? = some m ∧ Ar C.P (Instr.findAsking kt k l2 i) = some (some (n, m.val))) ∧
  (Ar C.P (Instr.findAsking kt k l1 i) = some none → Ar C.P (Instr.findAsking kt k l2 i) = some none)
 | [], [], i, _, _ => by constructor <;> simp [Instr.findAsking, Ar, pure]
 | [], b :: l2, i, hl, _ => by simp at hl
 | a :: l1, [], i, hl, _ => by simp at hl
 | a :: l1, b :: l2, i, hl, hk => by
  have hab := hk 0 a b rfl rfl
  obtain ⟨h1, h2⟩ := findAsking_same kt k l1 l2 (i + 1) (by simpa using hl) (fun j x y hx hy => hk (j + 1) x y (by simpa using hx) (by simpa using hy))
  simp only [Instr.findAsking, hab, Bf]
  cases hs : Ar C.P (Op.equal kt k b.key) with
  | none => simp
  | some t =>
   cases t
   ·simp only [Bool.false_eq_true, if_false]
    refine ⟨fun n u hn => ?_, h2⟩
    obtain ⟨m, g1, g2, g3⟩ := h1 n u hn
    refine ⟨m, by omega, ?_, g3⟩
    rw [show n - i = (n - (i + 1)) + 1 by omega]
    simpa using g2
   ·simp only [if_true]
    refine ⟨fun n u hn => ?_, fun hn => ?_⟩
    ·simp [Ar, pure] at hn
     obtain ⟨rfl, rfl⟩ := hn
     exact ⟨b, Nat.le_refl _, by simp, rfl⟩
    ·simp [Ar, pure] at hn
theorem findKey_same (kt : TypeId) (k : Value) (l1 l2 : List MapEntry) (hl : l1.length = l2.length) (hk : ∀ (j : Nat) a b, l1[j]? = some a → l2[j]? = some b → a.key = b.key) :
  (∀ n u, Ar C.P (Instr.findKey kt k l1) = some (some (n, u)) → ∃ m, l2[n]? = some m ∧ Ar C.P (Instr.findKey kt k l2) = some (some (n, m.val))) ∧
  (Ar C.P (Instr.findKey kt k l1) = some none → Ar C.P (Instr.findKey kt k l2) = some none) := by
 unfold Instr.findKey
 simp only [Bf]
 cases hu : Ar C.P (underlying kt) with
 | none => simp
 | some kind =>
  simp only
  obtain ⟨h1, h2, h3⟩ := findNow_same kind k l1 l2 0 hl hk
  cases hf : Instr.findNow kind k l1 0 with
  | none =>
   rw [h3 hf]
   obtain ⟨g1, g2⟩ := findAsking_same (C := C) kt k l1 l2 0 hl hk
   exact ⟨fun n u hn => by obtain ⟨m, _, e1, e2⟩ := g1 n u hn; exact ⟨m, by simpa using e1, e2⟩, g2⟩
  | some r =>
   cases r with
   | none =>
    rw [h2 hf]
    refine ⟨fun n u hn => ?_, fun hn => rfl⟩
    simp [Ar, pure] at hn
   | some p =>
    obtain ⟨n, u⟩ := p
    obtain ⟨m, _, g2, g3⟩ := h1 n u hf
    rw [g3]
    refine ⟨fun n' u' hn => ?_, fun hn => ?_⟩
    ·simp [Ar, pure] at hn
     obtain ⟨rfl, rfl⟩ := hn
     exact ⟨m, by simpa using g2, rfl⟩
    ·simp [Ar, pure] at hn
theorem keyAt_out {kt : TypeId} {k : Value} {es : List (Value × Bool × List DV)} {ms : Array MapEntry} (hm : MRel gh w es ms) :
  (∀ i ds, keyAt C kt k es = some (some (i, ds)) → ∃ e m, es[i]? = some e ∧ e.2 = ds ∧ ms[i]? = some m ∧ (Instr.findKey kt k ms.toList).run C.P w = .ok (some (i, m.val)) w) ∧
  (keyAt C kt k es = some none → (Instr.findKey kt k ms.toList).run C.P w = .ok none w) := by
 have hl : (dummy es).length = ms.toList.length := by simpa [dummy] using hm.1
 have hk : ∀ (j : Nat) a b, (dummy es)[j]? = some a → ms.toList[j]? = some b → a.key = b.key := by
  intro j a b ha hb
  simp only [dummy, List.getElem?_map, Option.map_eq_some_iff] at ha
  obtain ⟨e, he, rfl⟩ := ha
  exact ((hm.2 j e b he (by simpa using hb)).1).symm
 obtain ⟨g1, g2⟩ := findKey_same (C := C) kt k (dummy es) ms.toList hl hk
 unfold keyAt
 show (∀ i ds, (match Ar C.P (Instr.findKey kt k (dummy es)) with | some (some (i, _)) => (match es[i]? with | some e => some (some (i, e.2)) | none => none) | some none => some none | none => none) = some (some (i, ds)) → _) ∧
  ((match Ar C.P (Instr.findKey kt k (dummy es)) with | some (some (i, _)) => (match es[i]? with | some e => some (some (i, e.2)) | none => none) | some none => some none | none => none) = some none → _)
 cases hf : Ar C.P (Instr.findKey kt k (dummy es)) with
 | none => simp
 | some r =>
  cases r with
  | none => exact ⟨fun i ds he => by simp at he, fun _ => still_run w (g2 hf)⟩
  | some p =>
   obtain ⟨n, u⟩ := p
   obtain ⟨m, e1, e2⟩ := g1 n u hf
   simp only
   cases he : es[n]? with
   | none => simp
   | some e =>
    refine ⟨fun i ds hi => ?_, fun hi => by simp at hi⟩
    simp at hi
    obtain ⟨rfl, rfl⟩ := hi
    exact ⟨e, m, he, rfl, by simpa using e1, still_run w e2⟩
theorem mapEs_out {m : AV} {mv : Value} {es : List (Value × Bool × List DV)} (hI : Inv C B K gh h w) (hm : RA gh w m mv) (e : mapEs h m = some es) :
  ∃ ms : Array MapEntry, MRel gh w es ms ∧ ((mv = .map none ∧ ms = #[]) ∨ ∃ b clock, mv = .map (some b) ∧ w.heap[b]? = some (.map ms clock)) := by
 have conv : ∀ (es : List (Value × Bool × List DV)) (ms : Array MapEntry) (xs : Nat → Nat → Value) , es.length = ms.size →
   (∀ (i : Nat) e m, es[i]? = some e → ms[i]? = some m → m.key = e.1 ∧ (e.2.1 = true → ∃ vs, m.val = .agg vs) ∧ (e.2.1 = false → one m.val = true) ∧ m.val.cells.size = e.2.2.length ∧ ∀ j : Nat, j < e.2.2.length → m.val.cells[j]? = some (xs i j)) →
   (∀ (i : Nat) (e : Value × Bool × List DV) (j : Nat) (y : DV), es[i]? = some e → e.2.2[j]? = some y → RD gh.F w y (xs i j)) → MRel gh w es ms := by
  intro es ms xs h1 h2 h3
  refine ⟨h1, fun i e m he hm => ?_⟩
  obtain ⟨a, a1, a2, b, c⟩ := h2 i e m he hm
  refine ⟨a, a1, a2, _, rfl, by simpa using b, fun j y x hy hx => ?_⟩
  have := c j (List.getElem?_eq_some_iff.1 hy).1
  simp at hx
  rw [hx] at this
  simp at this; subst this
  exact h3 i e j y he hy
 unfold mapEs at e
 split at e
 ·simp at e; subst e
  cases hm with
  | d _ _ hd =>
   cases hd with
   | mp _ b ms clock xs hb hF hl he hr hw => exact ⟨ms, conv _ ms xs hl he hr, .inr ⟨b, clock, rfl, hb⟩⟩
 ·simp at e; subst e
  exact ⟨#[], ⟨rfl, fun i e m he => by simp at he⟩, .inl ⟨hm.eq_v, rfl⟩⟩
 ·rename_i s g
  cases eg : h.get s g with
  | none => simp [eg] at e
  | some o =>
   cases o with
   | map es' fz =>
    simp only [eg, Option.some.injEq] at e; subst e
    cases hm with
    | mp _ _ b hJ =>
     obtain ⟨o', h1, _, h3⟩ := hI.dom s g b hJ
     rw [eg] at h1; obtain rfl : AO.map es' fz = o' := by simpa using h1
     obtain ⟨ms, c, xs, hb, hl, _, he, hr, _⟩ := h3
     exact ⟨ms, conv _ ms xs hl he hr, .inr ⟨b, c, rfl, hb⟩⟩
   | _ => simp [eg] at e
 ·cases e
end Go.Ev
namespace Go.Ev
open Go Go.RowKit
variable {C : Ctx} {B : Nat} {K : List Nat} {gh : Gh} {h : H} {w : World}
theorem lookup_ms {t : TypeId} {k a : AV} {mv kv : Value} {es : List (Value × Bool × List DV)} {ok : Bool} (hk : RA gh w k kv) {ms : Array MapEntry} (hmr : MRel gh w es ms)
  (hcase : (mv = .map none ∧ ms = #[]) ∨ ∃ b clock, mv = .map (some b) ∧ w.heap[b]? = some (.map ms clock)) (e : Bv C t es k ok = some a) : ∃ v, (Instr.lookup t mv kv ok).run C.P w = .ok v w ∧ RA gh w a v := by
 unfold Bv at e
 split at e
 ·rename_i kt et kv' e1 e2
  have hkv := toV_eq e2 hk
  subst hkv
  have hempty : ms.isEmpty = es.isEmpty := by
   have := hmr.1
   rw [Bool.eq_iff_iff, Array.isEmpty_iff_size_eq_zero, List.isEmpty_iff_length_eq_zero]
   omega
  have core : ∀ (u : Unit) (r : Option (Nat × Value)) (v : Value) , Ar C.P (Instr.checkKey es.isEmpty 10000 kt kv) = some u → (Instr.findKey kt kv ms.toList).run C.P w = .ok r w →
    (r = none → BL C et = some v) → (∀ i x, r = some (i, x) → x = v) →
    (Instr.lookup t mv kv ok).run C.P w = .ok (if ok then .tuple #[v, .bool r.isSome] else v) w := by
   intro u r v h1 h2 h3 h5
   have hck := still_run w h1
   rw [← hempty] at hck
   rcases hcase with ⟨rfl, rfl⟩ | ⟨b, c, rfl, hb⟩
   ·have hu : (underlying t).run C.P w = .ok (.map kt et) w := AB e1
    unfold Instr.lookup
    rw [Sem.run_bind, hu, Result.andThen_ok]
    show Sem.run C.P (do let es ← (pure #[] : Sem (Array MapEntry)); _) w = _
    rw [Sem.run_bind, Sem.run_pure, Result.andThen_ok, Sem.run_bind, hck, Result.andThen_ok, Sem.run_bind, h2, Result.andThen_ok]
    cases r with
    | some p =>
     obtain ⟨i, v'⟩ := p
     obtain rfl := h5 i v' rfl
     rfl
    | none => simp [run_zeroT (h3 rfl)]
   ·have hu : (underlying t).run C.P w = .ok (.map kt et) w := AB e1
    have hgo : ∀ {β : Type} (k : Obj → Sem β), (Sem.getObj b k).run C.P w = (k (.map ms c)).run C.P w := by intro β k; simp only [Sem.run, hb]
    unfold Instr.lookup
    rw [Sem.run_bind, hu, Result.andThen_ok]
    show Sem.run C.P (Sem.getObj b _) w = _
    rw [hgo]
    show Sem.run C.P (do let es ← (pure ms : Sem (Array MapEntry)); _) w = _
    rw [Sem.run_bind]
    show Sem.run C.P (do Instr.checkKey ms.isEmpty 10000 kt kv; _) w = _
    rw [Sem.run_bind, hck, Result.andThen_ok, Sem.run_bind, h2, Result.andThen_ok]
    cases r with
    | some p =>
     obtain ⟨i, v'⟩ := p
     obtain rfl := h5 i v' rfl
     rfl
    | none => simp [run_zeroT (h3 rfl)]
  obtain ⟨k1, k2⟩ := keyAt_out (C := C) (kt := kt) (k := kv) hmr
  split at e
  ·rename_i u i ds c1 c2
   obtain ⟨en, m', h1, h2, h3, h4⟩ := k1 i ds c2
   have hrun := core _ (some (i, m'.val)) m'.val c1 h4 (fun e => by cases e) (fun i x e => by cases e; rfl)
   obtain ⟨_, g1, g2, xs, g3, g4, g5⟩ := hmr.2 i en m' h1 h3
   subst h2
   have ha : ∀ a', valA en.2 = some a' → RA gh w a' m'.val := by
    intro a' hv
    unfold valA at hv
    split at hv
    ·rename_i hb
     simp at hv; subst hv
     obtain ⟨vs, hvs⟩ := g1 hb
     rw [hvs] at g3 ⊢
     refine .of_RL ⟨?_, fun j y x hy hx => ?_⟩
     ·have g6 : vs = xs.toArray := by simpa [Value.cells, ← Array.toList_inj] using g3
      subst g6
      simpa using g4.symm
     ·simp only [List.getElem?_map, Option.map_eq_some_iff] at hy
      obtain ⟨d, hd, rfl⟩ := hy
      exact .d _ _ (g5 j d x hd (by rw [← g3]; simpa [Value.cells] using hx))
    ·rename_i hb
     split at hv
     ·rename_i x hx
      simp at hv; subst hv
      have hone := g2 (by simpa using hb)
      rw [cells_one hone] at g3
      exact .d _ _ (g5 0 x m'.val (by rw [hx]; rfl) (by rw [← g3]; rfl))
     ·cases hv
   split at e
   ·rename_i a' hv
    simp at e; subst e
    refine ⟨_, hrun, ?_⟩
    cases ok
    ·simpa using ha _ hv
    ·simp only [if_true]
     refine .tup [a', _] [m'.val, .bool true] rfl (fun j y x hy hx => ?_)
     match j, hy, hx with
     | 0, hy, hx => simp at hy hx; subst hy; subst hx; exact ha _ hv
     | 1, hy, hx => simp at hy hx; subst hy; subst hx; exact .v _
     | j + 2, hy, hx => simp at hy
   ·cases e
  ·rename_i u c1 c2
   have h4 := k2 c2
   split at e
   ·rename_i z hz
    simp at e; subst e
    have hrun := core _ none z c1 h4 (fun _ => hz) (fun i x e => by cases e)
    refine ⟨_, hrun, ?_⟩
    cases ok
    ·simpa using RA.of_v1 z
    ·simp only [if_true]
     refine .tup [ofV1 z, _] [z, .bool false] rfl (fun j y x hy hx => ?_)
     match j, hy, hx with
     | 0, hy, hx => simp at hy hx; subst hy; subst hx; exact .of_v1 _
     | 1, hy, hx => simp at hy hx; subst hy; subst hx; exact .v _
     | j + 2, hy, hx => simp at hy
   ·cases e
  ·cases e
 ·cases e
theorem lookup_out {t : TypeId} {m k a : AV} {mv kv : Value} {es : List (Value × Bool × List DV)} {ok : Bool} (hI : Inv C B K gh h w) (hm : RA gh w m mv) (hk : RA gh w k kv)
  (he : mapEs h m = some es) (e : Bv C t es k ok = some a) : ∃ v, (Instr.lookup t mv kv ok).run C.P w = .ok v w ∧ RA gh w a v := by
 obtain ⟨ms, hmr, hcase⟩ := mapEs_out hI hm he
 exact lookup_ms hk hmr hcase e
abbrev Ents := List (Value × Bool × List DV)
theorem findNow_ints {ik : IntKind} {n : Int} : ∀ (es : Ents) (i : Nat), (∀ e ∈ es, ∃ m : Int, e.1 = .int .i64 m) →
  (Instr.findNow (.int ik) (.int .i64 n) (dummy es) i = some none ∧ ∀ e ∈ es, e.1 ≠ .int .i64 n) ∨
  ∃ j e, Instr.findNow (.int ik) (.int .i64 n) (dummy es) i = some (some (i + j, undef)) ∧ es[j]? = some e ∧ e.1 = .int .i64 n
 | [], i, _ => .inl ⟨rfl, fun e h => by cases h⟩
 | a :: es, i, hk => by
  obtain ⟨m, hm⟩ := hk a (by simp)
  by_cases hmn : m = n
  ·subst hmn
   exact .inr ⟨0, a, by simp [dummy, Instr.findNow, Instr.sameNow, hm], rfl, hm⟩
  ·have hstep : Instr.findNow (.int ik) (.int .i64 n) (dummy (a :: es)) i = Instr.findNow (.int ik) (.int .i64 n) (dummy es) (i + 1) := by
    have : (n == m) = false := by simp; omega
    simp [dummy, Instr.findNow, Instr.sameNow, hm, this]
   rw [hstep]
   rcases findNow_ints es (i + 1) (fun e h => hk e (by simp [h])) with ⟨h1, h2⟩ | ⟨j, e, h1, h2, h3⟩
   ·refine .inl ⟨h1, fun e he => ?_⟩
    rcases List.mem_cons.1 he with rfl | he
    ·rw [hm]; intro h; cases h; exact hmn rfl
    ·exact h2 e he
   ·exact .inr ⟨j + 1, e, by rw [h1]; congr 3; omega, by simpa using h2, h3⟩
theorem keyAt_ints {kt : TypeId} {ik : IntKind} {n : Int} (hu : C.P.underlying kt = some (.int ik)) (es : Ents) (hk : ∀ e ∈ es, ∃ m : Int, e.1 = .int .i64 m) :
  (keyAt C kt (.int .i64 n) es = some none ∧ ∀ e ∈ es, e.1 ≠ .int .i64 n) ∨ ∃ j e, keyAt C kt (.int .i64 n) es = some (some (j, e.2)) ∧ es[j]? = some e ∧ e.1 = .int .i64 n := by
 have hs : Ar C.P (underlying kt) = some (.int ik) := by
  show Ar C.P (match C.P.underlying kt with | some d => pure d | none => stuck "no such type") = _
  rw [hu]; rfl
 unfold keyAt
 show ((match Ar C.P (Instr.findKey kt (.int .i64 n) (dummy es)) with | some (some (i, _)) => (match es[i]? with | some e => some (some (i, e.2)) | none => none) | some none => some none | none => none) = some none ∧ _) ∨
  ∃ (j : Nat) (e : Value × Bool × List DV), (match Ar C.P (Instr.findKey kt (.int .i64 n) (dummy es)) with | some (some (i, _)) => (match es[i]? with | some e => some (some (i, e.2)) | none => none) | some none => some none | none => none) = some (some (j, e.2)) ∧ _
 unfold Instr.findKey
 simp only [Bf, hs]
 rcases findNow_ints (ik := ik) (n := n) es 0 hk with ⟨h1, h2⟩ | ⟨j, e, h1, h2, h3⟩
 ·left
  rw [h1]
  exact ⟨rfl, h2⟩
 ·right
  rw [h1]
  refine ⟨j, e, ?_, h2, h3⟩
  simp [Ar, pure, h2]
theorem nodup_at {α β : Type} {f : α → β} : ∀ {l : List α}, (l.map f).Nodup → ∀ {a b : α}, a ∈ l → b ∈ l → f a = f b → a = b
 | [], _, a, b, ha, _, _ => by cases ha
 | x :: l, hn, a, b, ha, hb, e => by
  simp only [List.map_cons, List.nodup_cons, List.mem_map, not_exists, not_and] at hn
  rcases List.mem_cons.1 ha with ha1 | ha1 <;> rcases List.mem_cons.1 hb with hb1 | hb1
  ·rw [ha1, hb1]
  ·exact absurd (by rw [← e, ha1]) (hn.1 b hb1)
  ·exact absurd (by rw [e, hb1]) (hn.1 a ha1)
  ·exact nodup_at hn.2 ha1 hb1 e
theorem lookupIn_perm {t kt et : TypeId} {ik : IntKind} {n : Int} {es es' : Ents} {ok : Bool} {a : AV} (ht : C.P.underlying t = some (.map kt et)) (hu : C.P.underlying kt = some (.int ik)) (hp : es'.Perm es)
  (hk : ∀ e ∈ es, ∃ m : Int, e.1 = .int .i64 m) (hn : (es.map (·.1)).Nodup) (e : Bv C t es (.d (.v (.int .i64 n))) ok = some a) : Bv C t es' (.d (.v (.int .i64 n))) ok = some a := by
 have hk' : ∀ e ∈ es', ∃ m : Int, e.1 = .int .i64 m := fun e he => hk e (hp.mem_iff.1 he)
 have hemp : es'.isEmpty = es.isEmpty := by
  have := hp.length_eq
  rw [Bool.eq_iff_iff, List.isEmpty_iff_length_eq_zero, List.isEmpty_iff_length_eq_zero]
  omega
 rw [← e]
 unfold Bv
 simp only [ht, toV, hemp]
 rcases keyAt_ints (C := C) (n := n) hu es hk with ⟨h1, h2⟩ | ⟨j, x, h1, h2, h3⟩ <;> rcases keyAt_ints (C := C) (n := n) hu es' hk' with ⟨g1, g2⟩ | ⟨i, y, g1, g2, g3⟩
 ·rw [h1, g1]
 ·exact absurd g3 (h2 y (hp.mem_iff.1 (List.mem_of_getElem? g2)))
 ·exact absurd h3 (g2 x (hp.mem_iff.2 (List.mem_of_getElem? h2)))
 ·obtain rfl : y = x := nodup_at hn (hp.mem_iff.1 (List.mem_of_getElem? g2)) (List.mem_of_getElem? h2) (g3.trans h3.symm)
  rw [h1, g1]
  cases Ar C.P (Instr.checkKey (List.isEmpty es) 10000 kt (Value.int IntKind.i64 n)) <;> rfl
theorem RD.mrel {es : Ents} {b : Nat} (hm : RD gh.F w (.mp es) (.map (some b))) : ∃ ms : Array MapEntry, MRel gh w es ms ∧ ∃ clock, w.heap[b]? = some (.map ms clock) := by
 cases hm with
 | mp _ b ms clock xs hb hF h1 h2 h3 hw =>
  refine ⟨ms, ⟨h1, fun i e m he hm => ?_⟩, clock, hb⟩
  obtain ⟨a, a1, a2, b, c⟩ := h2 i e m he hm
  refine ⟨a, a1, a2, _, rfl, by simpa using b, fun j y x hy hx => ?_⟩
  have := c j (List.getElem?_eq_some_iff.1 hy).1
  simp at hx
  rw [hx] at this
  simp at this; subst this
  exact h3 i e j y he hy
theorem tab_out {t : TypeId} {m k a : AV} {mv kv : Value} {ok : Bool} (hm : RA gh w m mv) (hk : RA gh w k kv) (e : tabIn C t m k ok = some a) : ∃ v, (Instr.lookup t mv kv ok).run C.P w = .ok v w ∧ RA gh w a v := by
 unfold tabIn at e
 split at e
 ·rename_i es n kt et ht
  split at e
  ·rename_i ik hu
   cases hm with
   | d _ _ hd =>
    cases hd with
    | tab _ es' b hp hks hn h =>
     obtain ⟨ms, hmr, clock, hb⟩ := h.mrel
     exact lookup_ms hk hmr (.inr ⟨b, clock, rfl, hb⟩) (lookupIn_perm ht hu hp hks hn e)
  ·cases e
 ·cases e
theorem Born.push {ms : Array MapEntry} {clock : Nat} {k x : Value} (h : Born ms clock) : Born (ms.push { key := k, val := x, born := clock }) (clock + 1) := by
 obtain ⟨h1, h2⟩ := h
 have key : ∀ (i : Nat) (m : MapEntry), (ms.push { key := k, val := x, born := clock })[i]? = some m → (ms[i]? = some m ∧ m.born < clock) ∨ (i = ms.size ∧ m.born = clock) := by
  intro i m e
  rw [Array.getElem?_push] at e
  split at e
  ·rename_i hi
   simp at e; subst e
   exact .inr ⟨hi, rfl⟩
  ·exact .inl ⟨e, h1 i m e⟩
 refine ⟨fun i m e => ?_, fun i j m n e e' hb => ?_⟩
 ·rcases key i m e with ⟨_, h⟩ | ⟨_, h⟩ <;> omega
 ·rcases key i m e with ⟨q, h⟩ | ⟨q, h⟩ <;> rcases key j n e' with ⟨q', h'⟩ | ⟨q', h'⟩
  ·exact h2 i j m n q q' hb
  ·omega
  ·omega
  ·omega
theorem Born.modify {ms : Array MapEntry} {clock : Nat} (i : Nat) (f : MapEntry → MapEntry) (hf : ∀ e, (f e).born = e.born) (h : Born ms clock) : Born (ms.modify i f) clock := by
 obtain ⟨h1, h2⟩ := h
 have key : ∀ (j : Nat) (m : MapEntry), (ms.modify i f)[j]? = some m → ∃ m', ms[j]? = some m' ∧ m'.born = m.born := by
  intro j m e
  rw [Array.getElem?_modify] at e
  split at e
  ·simp only [Option.map_eq_some_iff] at e
   obtain ⟨m', e1, rfl⟩ := e
   exact ⟨m', e1, (hf m').symm⟩
  ·exact ⟨m, e, rfl⟩
 refine ⟨fun j m e => ?_, fun j k m n e e' hb => ?_⟩
 ·obtain ⟨m', e1, e2⟩ := key j m e
  rw [← e2]; exact h1 j m' e1
 ·obtain ⟨m', e1, e2⟩ := key j m e
  obtain ⟨n', e3, e4⟩ := key k n e'
  exact h2 j k m' n' e1 e3 (by omega)
theorem MRel.orel {b : Nat} {es : List (Value × Bool × List DV)} {ms : Array MapEntry} {clock : Nat} {fz : Bool} (hm : MRel gh w es ms) (hb : w.heap[b]? = some (.map ms clock)) (hF : fz = false → ∀ o, ¬ gh.F b o) (hw : Born ms clock) : ORel gh w b (.map es fz) := by
 refine ⟨ms, clock, fun i j => ((ms[i]?.map (·.val.cells)).bind (·[j]?)).getD undef, hb, hm.1, hF, fun i e m he hme => ?_, fun i e j y he hy => ?_, hw⟩
 ·obtain ⟨a, a1, a2, xs, h3, h4, h5⟩ := hm.2 i e m he hme
  have hsz : m.val.cells.size = e.2.2.length := by rw [← h4, ← h3]; simp
  refine ⟨a, a1, a2, hsz, fun j hj => ?_⟩
  simp [hme, show j < m.val.cells.size by omega]
 ·have hi : i < ms.size := by have := (List.getElem?_eq_some_iff.1 he).1; have := hm.1; omega
  have hme : ms[i]? = some ms[i] := Array.getElem?_eq_getElem hi
  obtain ⟨a, a1, a2, xs, h3, h4, h5⟩ := hm.2 i e _ he hme
  have hj : j < xs.length := by have := (List.getElem?_eq_some_iff.1 hy).1; omega
  have hc : ms[i].val.cells[j]? = some xs[j] := by
   rw [← Array.getElem?_toList, h3]
   exact List.getElem?_eq_getElem hj
  simp only [hme, Option.map_some, Option.bind_some, hc, Option.getD_some]
  exact h5 j y _ hy (List.getElem?_eq_getElem hj)
theorem orel_map {b : Nat} {es : List (Value × Bool × List DV)} {fz : Bool} (ho : ORel gh w b (.map es fz)) : ∃ ms clock, w.heap[b]? = some (.map ms clock) ∧ MRel gh w es ms ∧ Born ms clock := by
 obtain ⟨ms, c, xs, hb, hl, _, he, hr, hw⟩ := ho
 refine ⟨ms, c, hb, ⟨hl, fun i e m he' hm => ?_⟩, hw⟩
 obtain ⟨a, a1, a2, b', c'⟩ := he i e m he' hm
 refine ⟨a, a1, a2, _, rfl, by simpa using b', fun j y x hy hx => ?_⟩
 have := c' j (List.getElem?_eq_some_iff.1 hy).1
 simp at hx
 rw [hx] at this
 simp at this; subst this
 exact hr i e j y he' hy
theorem update_out {t : TypeId} {m k x : AV} {mv kv xv : Value} {h' : H} (hI : Inv C B K gh h w) (hm : RA gh w m mv) (hk : RA gh w k kv) (hx : RA gh w x xv)
  (e : updateOp C t m k x h = some h') : ∃ w', (Instr.mapUpdate t mv kv xv).run C.P w = .ok () w' ∧ Stp B gh w gh w' ∧ Inv C B K gh h' w' := by
 unfold updateOp at e
 split at e
 ·rename_i s g kt et kv' ds e1 e2 e3
  have hkv := toV_eq e2 hk
  subst hkv
  cases eg : h.get s g with
  | none => simp [eg] at e
  | some o =>
   cases o with
   | cells => simp [eg] at e
   | loop => simp [eg] at e
   | iter => simp [eg] at e
   | dead => simp [eg] at e
   | map es fz =>
    cases fz with
    | true => simp [eg] at e
    | false =>
     simp only [eg] at e
     cases hm with
     | mp _ _ b hJ =>
      obtain ⟨o', h1, hBb, h3⟩ := hI.dom s g b hJ
      rw [eg] at h1; obtain rfl : AO.map es false = o' := by simpa using h1
      obtain ⟨ms, clock, hb, hmr, hbn⟩ := orel_map h3
      have hFb : ∀ o, ¬ gh.F b o := by obtain ⟨_, _, _, _, _, hF, _⟩ := h3; exact hF rfl
      obtain ⟨k1, k2⟩ := keyAt_out (C := C) (kt := kt) (k := kv) hmr
      obtain ⟨d1, d2⟩ := Cn e3
      have hxcell : (AX x).all isCell = true := by
       refine List.all_eq_true.2 (fun y hy => ?_)
       obtain ⟨i, hi, rfl⟩ := List.mem_iff_getElem.1 hy
       have hd : ds[i]? = some ds[i] := List.getElem?_eq_getElem (by omega)
       have := d2 i _ _ (List.getElem?_eq_getElem hi) hd
       unfold cellD at this
       split at this
       ·rename_i z hz
        split at this
        ·rename_i ho; rw [hz]; simpa [isCell] using ho
        ·cases this
       ·rename_i z hz heq; rw [heq]; cases z <;> first | rfl | exact absurd rfl (hz _)
       ·rename_i heq; rw [heq]; rfl
       ·cases this
      obtain ⟨xl, x1⟩ := hx.cells hxcell
      have hnew : ∀ (w' : World), Stp B gh w gh w' → (isAggA x = true → ∃ vs, xv = .agg vs) ∧ (isAggA x = false → one xv = true) ∧
        ∃ xs : List Value, xv.cells.toList = xs ∧ xs.length = ds.length ∧ ∀ (j : Nat) y v, ds[j]? = some y → xs[j]? = some v → RD gh.F w' y v := by
       intro w' kk
       refine ⟨fun ha => ?_, fun ha => ?_, _, rfl, by rw [← xl.1]; exact d1, fun j y v hy hv => ?_⟩
       ·cases x with
        | agg cs => cases hx; exact ⟨_, rfl⟩
        | _ => simp [isAggA] at ha
       ·cases x with
        | agg cs => simp [isAggA] at ha
        | _ => exact hx.isCell (by simpa [AX] using hxcell)
       ·have hj : j < (AX x).length := by have := (List.getElem?_eq_some_iff.1 hy).1; omega
        exact (cellD_rel (d2 j _ y (List.getElem?_eq_getElem hj) hy) (xl.2 j _ v (List.getElem?_eq_getElem hj) hv)).mono kk.le.F kk.same
      have hbl := hI.J_lt hJ
      have setObj_run : ∀ (ms' : Array MapEntry) (c' : Nat), (setObj b (.map ms' c')).run C.P w = .ok () { w with heap := w.heap.setIfInBounds b (.map ms' c') } := by
       intro ms' c'
       simp [setObj, Sem.run, hb]
      have finish : ∀ (ms' : Array MapEntry) (c' : Nat) (es' : List (Value × Bool × List DV)), (∀ w', Stp B gh w gh w' → MRel gh w' es' ms') → Born ms' c' →
        Stp B gh w gh { w with heap := w.heap.setIfInBounds b (.map ms' c') } ∧ Inv C B K gh (h.set s g (.map es' false)) { w with heap := w.heap.setIfInBounds b (.map ms' c') } := by
       intro ms' c' es' hh hw
       refine hI.setObj hJ eg rfl rfl rfl (by simp) (fun k hk => ?_) hFb (fun kk => (hh _ kk).orel (clock := c') ?_ (fun _ => hFb) hw) (by simp)
       ·rw [Array.getElem?_setIfInBounds_ne (fun h => hk h.symm)]
       ·simp [hbl]
      have mono : ∀ w', Stp B gh w gh w' → MRel gh w' es ms := by
       intro w' kk
       refine ⟨hmr.1, fun i e m he hm => ?_⟩
       obtain ⟨a, a1, a2, xs, b1, b2, b3⟩ := hmr.2 i e m he hm
       exact ⟨a, a1, a2, xs, b1, b2, fun j y x hy hx => (b3 j y x hy hx).mono kk.le.F kk.same⟩
      split at e
      ·rename_i u c1 c2
       simp at e; subst e
       have hf := k2 c2
       refine ⟨_, ?_, finish (ms.push { key := kv, val := xv, born := clock }) (clock + 1) _ (fun w' kk => ?_) hbn.push⟩
       ·simp only [Instr.mapUpdate, Sem.run_bind, AB e1, Result.andThen_ok]
        have hgo : (getObj b).run C.P w = .ok (.map ms clock) w := by simp [getObj, Sem.run, hb]
        simp only [Sem.run_bind, hgo, Result.andThen_ok, still_run w c1, hf]
        exact setObj_run _ _
       ·obtain ⟨n1, n2, xs, n3, n4, n5⟩ := hnew w' kk
        have hmr' := mono w' kk
        refine ⟨by simp [hmr.1], fun i e m he hme => ?_⟩
        have hsz := hmr.1
        rw [Array.getElem?_push] at hme
        rw [List.getElem?_append] at he
        by_cases hi : i < es.length
        ·rw [if_pos hi] at he
         rw [if_neg (by omega)] at hme
         exact hmr'.2 i e m he hme
        ·rw [if_neg hi] at he
         have hi' : i = es.length := by
          have := (List.getElem?_eq_some_iff.1 he).1
          simp at this; omega
         subst hi'
         simp at he
         rw [if_pos hsz] at hme
         simp at hme
         subst he; subst hme
         exact ⟨rfl, n1, n2, xs, n3, n4, n5⟩
      ·rename_i u i ds' c1 c2
       obtain ⟨en, m', q1, q2, q3, q4⟩ := k1 i ds' c2
       rw [q1] at e
       simp only at e
       split at e
       ·rename_i hsame
        simp at e; subst e
        have hkey : m'.key = en.1 := (hmr.2 i en m' q1 q3).1
        refine ⟨_, ?_, finish (ms.modify i fun e => { e with key := kv, val := xv }) clock _ (fun w' kk => ?_) (hbn.modify _ _ fun e => rfl)⟩
        ·simp only [Instr.mapUpdate, Sem.run_bind, AB e1, Result.andThen_ok]
         have hgo : (getObj b).run C.P w = .ok (.map ms clock) w := by simp [getObj, Sem.run, hb]
         simp only [Sem.run_bind, hgo, Result.andThen_ok, still_run w c1, q4]
         have hks : (Instr.keyThatStays (((ms[i]?).map (·.key)).getD kv) kv).run C.P w = .ok kv w := by
          simp [Instr.keyThatStays, q3, hkey, hsame]
         simp only [hks, Result.andThen_ok]
         exact setObj_run _ _
        ·obtain ⟨n1, n2, xs, n3, n4, n5⟩ := hnew w' kk
         have hmr' := mono w' kk
         refine ⟨by simp [hmr.1], fun j e m he hme => ?_⟩
         rw [List.getElem?_set] at he
         rw [Array.getElem?_modify] at hme
         by_cases hij : i = j
         ·subst hij
          have : i < es.length := (List.getElem?_eq_some_iff.1 q1).1
          rw [if_pos rfl, if_pos this] at he
          rw [if_pos rfl, q3] at hme
          simp at he hme
          subst he; subst hme
          exact ⟨rfl, n1, n2, xs, n3, n4, n5⟩
         ·rw [if_neg hij] at he hme
          exact hmr'.2 j e m he hme
       ·cases e
      ·cases e
 ·cases e
end Go.Ev
namespace Go.Ev
open Go Go.RowKit
variable {C : Ctx} {B : Nat} {K : List Nat} {gh : Gh} {h : H} {w : World}
theorem Inv.dropTok (hI : Inv C B K gh h w) (s g : Nat) (hg : h.tok s < g) : Inv C B K gh (h.setTok s g) w where
 size := hI.size
 dom := hI.dom
 back := hI.back
 inj := hI.inj
 tok := fun s' t e => by
  by_cases hs : s' = s
  ·subst hs; rw [H.tok_setTok_same, hI.tfresh _ _ hg] at e; cases e
  ·rw [H.tok_setTok_other _ _ _ _ hs] at e; exact hI.tok s' t e
 tinj := fun s1 s2 t t' e e' => by
  by_cases h1 : s1 = s
  ·subst h1; rw [H.tok_setTok_same, hI.tfresh _ _ hg] at e; cases e
  ·by_cases h2 : s2 = s
   ·subst h2; rw [H.tok_setTok_same, hI.tfresh _ _ hg] at e'; cases e'
   ·rw [H.tok_setTok_other _ _ _ _ h1] at e
    rw [H.tok_setTok_other _ _ _ _ h2] at e'
    exact hI.tinj s1 s2 t t' e e'
 tfresh := fun s' g' hg' => by
  by_cases hs : s' = s
  ·subst hs; rw [H.tok_setTok_same] at hg'; exact hI.tfresh _ _ (by omega)
  ·rw [H.tok_setTok_other _ _ _ _ hs] at hg'; exact hI.tfresh _ _ hg'
 kept := hI.kept
 glob := hI.glob
 fsize := hI.fsize
def Gh.addT (gh : Gh) (s g : Nat) (t : Nat × Nat × Nat × Nat) (F' : Nat → Nat → Prop) : Gh :=
 { J := gh.J, T := fun s' g' => if s' = s ∧ g' = g then some t else gh.T s' g', F := F', Z := gh.Z }
theorem Inv.addTok {w' : World} {F' : Nat → Nat → Prop} (hI : Inv C B K gh h w) (s : Nat) (t : Nat × Nat × Nat × Nat)
  (k : Below B w w') (hFF : ∀ b x, gh.F b x → F' b x) (hsame : ∀ b x, gh.F b x → Bj w w' b x)
  (hother : ∀ b, b < w.heap.size → b ≠ t.1 → w'.heap[b]? = w.heap[b]?) (hF : ∀ b x, b ≠ t.1 → F' b x → gh.F b x)
  (hJ : ∀ s g, gh.J s g ≠ some t.1) (hK : t.1 ∉ K) (hTk : ∀ s' t', s' ≠ s → gh.T s' (h.tok s') = some t' → t'.1 ≠ t.1)
  (ht : TRel (gh.addT s (h.tok s + 1) t F') B w' t) (hfs : ∀ b x, F' b x → b < w'.heap.size) :
  Stp B gh w (gh.addT s (h.tok s + 1) t F') w' ∧ Inv C B K (gh.addT s (h.tok s + 1) t F') (h.setTok s (h.tok s + 1)) w' ∧ (gh.addT s (h.tok s + 1) t F').T s (h.tok s + 1) = some t := by
 have hle : GLe gh (gh.addT s (h.tok s + 1) t F') := by
  refine ⟨fun _ _ _ e => e, fun s' g' x e => ?_, hFF, fun _ _ _ _ => rfl⟩
  simp only [Gh.addT]
  rw [if_neg]
  ·exact e
  ·rintro ⟨rfl, rfl⟩; rw [hI.tfresh _ _ (by omega)] at e; cases e
 have kk : Stp B gh w (gh.addT s (h.tok s + 1) t F') w' := ⟨k, hle, hsame, fun b x e hb => hF b x (by have := ht.1; omega) e⟩
 have hnew : (gh.addT s (h.tok s + 1) t F').T s (h.tok s + 1) = some t := by simp [Gh.addT]
 refine ⟨kk, ?_, hnew⟩
 have hcase : ∀ s' t', (gh.addT s (h.tok s + 1) t F').T s' ((h.setTok s (h.tok s + 1)).tok s') = some t' → (s' = s ∧ t' = t) ∨ (s' ≠ s ∧ gh.T s' (h.tok s') = some t') := by
  intro s' t' e
  by_cases hs : s' = s
  ·subst hs; rw [H.tok_setTok_same, hnew] at e; exact .inl ⟨rfl, by simpa using e.symm⟩
  ·rw [H.tok_setTok_other _ _ _ _ hs] at e
   simp only [Gh.addT] at e
   rw [if_neg (fun hc => hs hc.1)] at e
   exact .inr ⟨hs, e⟩
 exact {
  size := Nat.le_trans hI.size k.size
  dom := fun s' g' b e => by
   obtain ⟨o, h1, h2, h3⟩ := hI.dom s' g' b e
   have hne : b ≠ t.1 := fun hb => hJ s' g' (hb ▸ e)
   exact ⟨o, h1, h2, h3.mono kk (hother b (hI.J_lt e) hne) (fun x hx => hF b x hne hx) rfl⟩
  back := hI.back
  inj := hI.inj
  tok := fun s' t' e => by
   rcases hcase s' t' e with ⟨rfl, rfl⟩ | ⟨hs, e'⟩
   ·exact ⟨ht, hJ, hK⟩
   ·obtain ⟨h1, h2, h3⟩ := hI.tok s' t' e'
    have hne := hTk s' t' hs e'
    exact ⟨h1.mono (hother _ (hI.T_lt e') hne) (fun x hx => hF _ x hne hx), h2, h3⟩
  tinj := fun s1 s2 t1 t2 e1 e2 hb => by
   rcases hcase _ _ e1 with ⟨rfl, rfl⟩ | ⟨hs1, e1'⟩ <;> rcases hcase _ _ e2 with ⟨rfl, rfl⟩ | ⟨hs2, e2'⟩
   ·rfl
   ·exact absurd hb.symm (hTk _ _ hs2 e2')
   ·exact absurd hb (hTk _ _ hs1 e1')
   ·exact hI.tinj _ _ _ _ e1' e2' hb
  tfresh := fun s' g' hg' => by
   by_cases hs : s' = s
   ·subst hs
    rw [H.tok_setTok_same] at hg'
    simp only [Gh.addT]
    rw [if_neg (by rintro ⟨_, rfl⟩; omega)]
    exact hI.tfresh _ _ (by omega)
   ·rw [H.tok_setTok_other _ _ _ _ hs] at hg'
    simp only [Gh.addT]
    rw [if_neg (fun hc => hs hc.1)]
    exact hI.tfresh _ _ hg'
  kept := fun D hD => by
   obtain ⟨h1, h2, h3⟩ := hI.kept D hD
   exact ⟨h1, (hother D (hI.K_lt hD) (fun hb => hK (hb ▸ hD))).trans h2, h3⟩
  glob := fun g row e j y ey => by
   obtain ⟨x, h1, h2, h3⟩ := hI.glob g row e j y ey
   exact ⟨x, (kk.same _ _ h2).1.trans h1, hFF _ _ h2, h3.mono kk.le.F kk.same⟩
  fsize := hfs }
structure RowsIn (F : Nat → Nat → Prop) (w : World) (sz : Nat) (rows : A8) (b o : Nat) (f : Nat → Value) : Prop where
 cell : ∀ j, j < rows.length * sz → w.cell? (Bn b (o + j)) = some (f j)
 size : ∀ (i : Nat) (r : List DV), rows[i]? = some r → r.length = sz
 rel : ∀ (i j : Nat) (r : List DV) (y : DV), rows[i]? = some r → r[j]? = some y → RD F w y (f (i * sz + j))
theorem mul_add_lt {i j n sz : Nat} (hi : i < n) (hj : j < sz) : i * sz + j < n * sz := by
 calc i * sz + j < i * sz + sz := by omega
  _ = (i + 1) * sz := by rw [Nat.add_mul, Nat.one_mul]
  _ ≤ n * sz := Nat.mul_le_mul_right _ hi
theorem RowsIn.one {F : Nat → Nat → Prop} {sz : Nat} {rows : A8} {b o : Nat} {f : Nat → Value} (hr : RowsIn F w sz rows b o f) (h0 : 0 < sz) (k : Nat) (hk : k < rows.length * sz) : Ev.one (f k) = true := by
 have hi : k / sz < rows.length := Nat.div_lt_of_lt_mul (by rw [Nat.mul_comm]; exact hk)
 have hj := Nat.mod_lt k h0
 have h1 : rows[k / sz]? = some rows[k / sz] := List.getElem?_eq_getElem hi
 have h2 := hr.size _ _ h1
 have := (hr.rel (k / sz) (k % sz) _ (rows[k / sz][k % sz]'(by omega)) h1 (List.getElem?_eq_getElem (by omega))).one
 rwa [Nat.mul_comm, Nat.div_add_mod] at this
theorem rowsOf_out {x : AV} {v : Value} {sz : Nat} {rows : A8} (hI : Inv C B K gh h w) (h0 : 0 < sz) (hx : RA gh w x v) (e : rowsOf h x = some (sz, rows)) :
  ∃ b o cap f, v = .slice (some (Bn b o)) rows.length cap ∧ RowsIn gh.F w sz rows b o f := by
 have byval : ∀ (full : Bool) (b o len cap : Nat), RD gh.F w (.sl sz full rows) (.slice (some (Bn b o)) len cap) → ∃ b' o' cap' f, Value.slice (some (Bn b o)) len cap = .slice (some (Bn b' o')) rows.length cap' ∧ RowsIn gh.F w sz rows b' o' f := by
  intro full b o len cap hd
  cases hd with
  | sl _ _ _ _ _ _ _ xs hlen hcap hfull hsz hc hr =>
   refine ⟨b, o, cap, fun j => xs (j / sz) (j % sz), by rw [hlen], fun j hj => ?_, hsz, fun i j r y hi hj => ?_⟩
   ·have hi : j / sz < rows.length := Nat.div_lt_of_lt_mul (by rw [Nat.mul_comm]; exact hj)
    have := (hc (j / sz) (j % sz) _ (List.getElem?_eq_getElem hi) (Nat.mod_lt _ h0)).1
    rwa [Nat.add_assoc, Nat.mul_comm, Nat.div_add_mod] at this
   ·have hjl : j < sz := by have := (List.getElem?_eq_some_iff.1 hj).1; have := hsz i r hi; omega
    have e1 : (i * sz + j) / sz = i := by rw [Nat.mul_comm, Nat.mul_add_div h0, Nat.div_eq_of_lt hjl]; omega
    have e2 : (i * sz + j) % sz = j := by rw [Nat.mul_comm, Nat.mul_add_mod, Nat.mod_eq_of_lt hjl]
    simp only [e1, e2]
    exact hr i j r y hi hj
 unfold rowsOf at e
 split at e
 ·simp at e; obtain ⟨rfl, rfl⟩ := e
  cases hx with
  | d _ _ hd =>
   cases hd with
   | sl _ _ _ b o len cap xs hlen hcap hfull hsz hc hr => exact byval _ _ _ _ _ (.sl _ _ _ b o len cap xs hlen hcap hfull hsz hc hr)
 ·simp at e; obtain ⟨rfl, rfl⟩ := e
  cases hx with
  | st _ _ _ _ b len cap hd ht => exact byval _ _ _ _ _ hd
 ·rename_i s g off len sz'
  split at e
  ·rename_i cs fz eg
   split at e
   ·rename_i l el
    split at e
    ·rename_i ds ed
     simp at e; obtain ⟨rfl, rfl⟩ := e
     cases hx with
     | hs _ _ _ _ _ b o cap hJ hcap ho hz =>
      obtain ⟨o', h1, _, h3⟩ := hI.dom s g b hJ
      rw [eg] at h1; obtain rfl : AO.cells cs fz = o' := by simpa using h1
      obtain ⟨xs, hc, hr⟩ := h3.cells_cell
      obtain ⟨t1, t2, t3⟩ := takeCells_eq el
      obtain ⟨d1, d2⟩ := Cn ed
      rw [chunk_length]
      refine ⟨b, o, cap, fun j => xs (off + j), rfl, fun j hj => ?_, fun i r hi => ?_, fun i j r y hi hj => ?_⟩
      ·rw [chunk_length] at hj
       have hlen : 0 < len := Nat.pos_of_ne_zero (by rintro rfl; simp at hj)
       rw [ho hlen]
       have := hc (off + j) (by omega)
       simpa using this
      ·obtain ⟨h1, h2⟩ := chunk_get _ _ _ _ _ hi
       subst h2
       have : i * sz' + sz' ≤ ds.length := by
        rw [← d1, t2]
        calc i * sz' + sz' = (i + 1) * sz' := by rw [Nat.add_mul, Nat.one_mul]
         _ ≤ len * sz' := Nat.mul_le_mul_right _ h1
       simp; omega
      ·obtain ⟨h1, h2⟩ := chunk_get _ _ _ _ _ hi
       subst h2
       rw [List.getElem?_take] at hj
       split at hj
       ·rename_i hjl
        rw [List.getElem?_drop] at hj
        have hlt : i * sz' + j < l.length := by have := (List.getElem?_eq_some_iff.1 hj).1; omega
        have hl := List.getElem?_eq_getElem hlt
        obtain ⟨q1, q2⟩ := t3 _ _ hl
        exact cellD_rel (d2 _ _ y hl hj) (hr _ _ q2)
       ·cases hj
    ·cases e
   ·cases e
  ·cases e
 ·cases e
theorem growBy_le (n : Nat) : ∀ (r c : Nat), c ≤ 2 * n + 1000 → Builtin.growBy n r c ≤ 2 * n + 1000
 | 0, c, h => by simpa [Builtin.growBy] using h
 | r + 1, c, h => by
  simp only [Builtin.growBy]
  split
  ·exact h
  ·exact growBy_le n r _ (by omega)
theorem nextslicecap_le {n old : Nat} (h : old < n) : Builtin.nextslicecap n old ≤ 2 * n + 1000 := by
 unfold Builtin.nextslicecap
 split
 ·omega
 ·split
  ·omega
  ·exact growBy_le _ _ _ (by omega)
theorem run_grow {t u elem eu : TypeId} {ty : TypeId} {sz by_ : Nat} {z : Value} (ht : C.P.underlying t = some (.slice elem)) (hu : C.P.underlying u = some (.slice eu)) (hs : AR C elem = some sz)
  (hb : bytesT C elem = some by_) (hz : BL C elem = some z) (hby : 0 < by_) (base : Option Addr) (n cap : Nat) (olds : List Value) (hlo : olds.length = n * sz)
  (hbase : ∀ b, base = some b → ∀ (j : Nat) v, olds[j]? = some v → w.cell? (b.add j) = some v) (hnone : base = none → n = 0)
  (x : Value) (m : Nat) (news : List Value) (hln : news.length = m * sz) (hx : (∃ a c, x = .slice (some a) m c ∧ ∀ (j : Nat) v, news[j]? = some v → w.cell? (a.add j) = some v) )
  (hg : cap < n + m) (hfit : (2 * (n + m) + 1000) * by_ ≤ 2 ^ 47) :
  ∃ newCap w', (Builtin.append_ #[t, u] ty #[.slice base n cap, x]).run C.P w = .ok (.slice (some (Bn w.heap.size 0)) (n + m) newCap) w' ∧ n + m ≤ newCap ∧
   Grows w w' (.cells (olds ++ news ++ (Builtin.zeroCells z.cells (newCap - (n + m))).toList).toArray elem (0, 0)) := by
 obtain ⟨a, c, rfl, hnews⟩ := hx
 have hi : ∃ i, C.P.info? elem = some i ∧ i.size = sz ∧ i.bytes = by_ ∧ i.zero = some z := by
  unfold AR at hs; unfold bytesT at hb; unfold BL at hz
  cases e : C.P.info? elem with
  | none => simp [e] at hs
  | some i => simp [e] at hs hb hz; exact ⟨i, rfl, hs, hb, hz⟩
 obtain ⟨i, hi, rfl, rfl, hz'⟩ := hi
 have hn1 : 2 * (n + m) + 1000 ≤ (2 * (n + m) + 1000) * i.bytes := Nat.le_mul_of_pos_right _ hby
 have hnx := nextslicecap_le hg
 have hfit' : Builtin.nextslicecap (n + m) cap * i.bytes ≤ 281474976710656 := Nat.le_trans (Nat.mul_le_mul_right _ hnx) (by omega)
 have hn : ¬ (n + m ≤ cap) := by omega
 have h63' : ¬ (9223372036854775807 < ((n : Int) + (m : Int))) := by omega
 have h48' : ¬ (281474976710656 < Builtin.nextslicecap (n + m) cap * i.bytes) := by omega
 have hf := run_firstCells_some (P := C.P) w.drew i.size m a m c news hln (by simpa using hnews)
 have hfo : (Builtin.firstCells i.size n (.slice base n cap)).run C.P w.drew = .ok olds.toArray w.drew := by
  cases base with
  | none =>
   have := hnone rfl
   subst this
   obtain rfl : olds = [] := by simpa using hlo
   simp [Builtin.firstCells]
  | some b => exact run_firstCells_some (P := C.P) w.drew i.size n b n cap olds hlo (by simpa using hbase b rfl)
 refine ⟨grownCap w (n + m) cap elem, w.drew.alloc (.cells (olds.toArray ++ news.toArray ++ Builtin.zeroCells z.cells (grownCap w (n + m) cap elem - (n + m))) elem), ?_, grownCap_ge _ _ _ _, ?_⟩
 ·simp [Builtin.append_, AB ht, AB hu, sizeOf, typeInfo, zeroValue, hi, hz', Builtin.lenOf, hn, h63', h48', Question.forced, hf, hfo, newRow, grownCap]
  congr 2
  apply Array.ext'
  simp
 ·exact ⟨congrArg (fun A => w.heap.push (.cells A elem)) (Array.ext' (by simp)), rfl, rfl, rfl⟩
theorem run_fits {t u elem eu : TypeId} {ty : TypeId} {sz : Nat} (ht : C.P.underlying t = some (.slice elem)) (hu : C.P.underlying u = some (.slice eu)) (hs : AR C elem = some sz)
  (g n cap : Nat) (cur : Array Value) (te : TypeId) (hg : w.heap[g]? = some (.cells cur te (0, 0)))
  (a : Addr) (m c : Nat) (news : List Value) (hl : news.length = m * sz) (hnews : ∀ (j : Nat) u, news[j]? = some u → w.cell? (a.add j) = some u) (h1 : ∀ u ∈ news, u.oneCell' = true)
  (hroom : n + m ≤ cap) (hfit : n * sz + news.length ≤ cur.size) :
  (Builtin.append_ #[t, u] ty #[.slice (some (Bn g 0)) n cap, .slice (some a) m c]).run C.P w =
   .ok (.slice (some (Bn g 0)) (n + m) cap) (w.setRow g (cur.toList.take (n * sz) ++ news ++ cur.toList.drop (n * sz + news.length)).toArray) := by
 have hf := run_firstCells_some (P := C.P) w sz m a m c news hl hnews
 have hst := run_storeCells_at C.P g (n * sz) te news 0 cur w hg (by simpa using hfit) h1
 simp only [Nat.add_zero] at hst
 simp [Builtin.append_, AB ht, AB hu, Bi hs, Builtin.lenOf, hroom, hf, Addr.add_lit, hst]
end Go.Ev
namespace Go.Ev
open Go Go.RowKit
variable {C : Ctx} {B : Nat} {K : List Nat} {gh : Gh} {h : H} {w : World}
theorem RD.of_rows {F : Nat → Nat → Prop} {sz : Nat} {rows : A8} {b o cap : Nat} {f : Nat → Value} {full : Bool} (hr : RowsIn F w sz rows b o f) (hF : ∀ j, j < rows.length * sz → F b (o + j))
  (hcap : rows.length ≤ cap) (hfull : full = true → cap = rows.length) : RD F w (.sl sz full rows) (.slice (some (Bn b o)) rows.length cap) := by
 refine .sl sz full rows b o _ cap (fun i j => f (i * sz + j)) rfl hcap hfull hr.size (fun i j r hi hj => ?_) hr.rel
 have hlt := mul_add_lt (List.getElem?_eq_some_iff.1 hi).1 hj
 have := hr.cell _ hlt
 exact ⟨by rw [Nat.add_assoc]; exact this, by rw [Nat.add_assoc]; exact hF _ hlt⟩
theorem RowsIn.both {F F' : Nat → Nat → Prop} {w' : World} {sz : Nat} {rows more : A8} {b o b2 o2 bN : Nat} {fo fm : Nat → Value} (h1 : RowsIn F w sz rows b o fo) (h2 : RowsIn F w sz more b2 o2 fm)
  (hm : ∀ y x, RD F w y x → RD F' w' y x) (hc1 : ∀ j, j < rows.length * sz → w'.cell? (Bn bN j) = some (fo j))
  (hc2 : ∀ j, j < more.length * sz → w'.cell? (Bn bN (rows.length * sz + j)) = some (fm j)) :
  RowsIn F' w' sz (rows ++ more) bN 0 (fun j => if j < rows.length * sz then fo j else fm (j - rows.length * sz)) := by
 refine ⟨fun j hj => ?_, fun i r hi => ?_, fun i j r y hi hj => ?_⟩
 ·rw [List.length_append, Nat.add_mul] at hj
  simp only [Nat.zero_add]
  split
  ·rename_i h; exact hc1 j h
  ·rename_i h
   have := hc2 (j - rows.length * sz) (by omega)
   rwa [show rows.length * sz + (j - rows.length * sz) = j by omega] at this
 ·rw [List.getElem?_append] at hi
  split at hi
  ·exact h1.size _ _ hi
  ·exact h2.size _ _ hi
 ·rw [List.getElem?_append] at hi
  split at hi
  ·rename_i hlt
   have hjs : j < sz := by have := (List.getElem?_eq_some_iff.1 hj).1; have := h1.size _ _ hi; omega
   simp only [mul_add_lt hlt hjs, if_true]
   exact hm _ _ (h1.rel _ _ _ _ hi hj)
  ·rename_i hlt
   have hle : rows.length * sz ≤ i * sz := Nat.mul_le_mul_right _ (by omega)
   rw [if_neg (by omega)]
   have e : i * sz + j - rows.length * sz = (i - rows.length) * sz + j := by rw [Nat.sub_mul]; omega
   rw [e]
   exact hm _ _ (h2.rel _ _ _ _ hi hj)
theorem run_none {t u elem eu : TypeId} {ty : TypeId} {sz : Nat} (ht : C.P.underlying t = some (.slice elem)) (hu : C.P.underlying u = some (.slice eu)) (hs : AR C elem = some sz)
  (base : Option Addr) (n cap : Nat) (hn : n ≤ cap) (a : Option Addr) (c : Nat) :
  (Builtin.append_ #[t, u] ty #[.slice base n cap, .slice a 0 c]).run C.P w = .ok (.slice base n cap) w := by
 have hf : (Builtin.firstCells sz 0 (.slice a 0 c)).run C.P w = .ok #[] w := by
  cases a with
  | none => rfl
  | some a => simp [Builtin.firstCells, loadCells, loadCellsFrom]
 cases base <;> simp [Builtin.append_, AB ht, AB hu, Bi hs, Builtin.lenOf, hn, hf, storeCells]
theorem appendee_out {x : AV} {xv : Value} {sz sz1 : Nat} {more : A8} (hI : Inv C B K gh h w) (h0 : 0 < sz) (hx : RA gh w x xv)
  (e : appArg sz h x = some (sz1, more)) (hsz : sz1 = sz) :
  ∃ a c b o f, xv = .slice a more.length c ∧ RowsIn gh.F w sz more b o f ∧ (more ≠ [] → a = some (Bn b o)) := by
 subst hsz
 unfold appArg at e
 split at e
 ·simp at e; subst e
  exact ⟨_, _, 0, 0, fun _ => undef, hx.eq_v, ⟨fun j hj => by simp at hj, fun i r hi => by simp at hi, fun i j r y hi => by simp at hi⟩, fun h => absurd rfl h⟩
 ·rename_i sz' rows
  simp at e
  obtain ⟨rfl, rfl⟩ := e
  cases hx with
  | d _ _ hd =>
   cases hd with
   | mn0 => exact ⟨none, 0, 0, 0, fun _ => undef, rfl, ⟨fun j hj => by simp at hj, fun i r hi => by simp at hi, fun i j r y hi => by simp at hi⟩, fun h => absurd rfl h⟩
   | mne _ a c => exact ⟨some a, c, 0, 0, fun _ => undef, rfl, ⟨fun j hj => by simp at hj, fun i r hi => by simp at hi, fun i j r y hi => by simp at hi⟩, fun h => absurd rfl h⟩
   | mn _ _ _ hd =>
    obtain ⟨b, o, c, f, h1, h2⟩ := rowsOf_out (x := .d (.sl _ false _)) hI h0 (.d _ _ hd) rfl
    exact ⟨_, c, b, o, f, h1, h2, fun _ => rfl⟩
 ·obtain ⟨b, o, c, f, h1, h2⟩ := rowsOf_out hI h0 hx e
  exact ⟨_, c, b, o, f, h1, h2, fun _ => rfl⟩
theorem B6 {f : Nat → Value} {n : Nat} {j : Nat} {v : Value} (h : ((List.range n).map f)[j]? = some v) : j < n ∧ v = f j := by
 simp only [List.getElem?_map, Option.map_eq_some_iff] at h
 obtain ⟨i, hi, rfl⟩ := h
 have := List.getElem?_eq_some_iff.1 hi
 obtain ⟨h1, h2⟩ := this
 simp at h1 h2
 exact ⟨h1, by rw [h2]⟩
theorem grow_out {t u elem eu ty : TypeId} {sz by_ : Nat} {z : Value} {rows more : A8} (s : Nat) (hI : Inv C B K gh h w)
  (ht : C.P.underlying t = some (.slice elem)) (hu : C.P.underlying u = some (.slice eu)) (hs : AR C elem = some sz) (hb : bytesT C elem = some by_) (hz : BL C elem = some z)
  (hzs : z.cells.size = sz) (h0 : 0 < sz) (hby : 0 < by_) {base : Option Addr} {cap b o : Nat} {fo : Nat → Value} (Aj : RowsIn gh.F w sz rows b o fo) (hbase : ∀ a, base = some a → a = Bn b o) (hnone : base = none → rows = [])
  {a : Option Addr} {c b2 o2 : Nat} {fm : Nat → Value} (hmore : RowsIn gh.F w sz more b2 o2 fm) (ha : more ≠ [] → a = some (Bn b2 o2)) (hne : more ≠ []) (hg : cap < rows.length + more.length)
  (hfit : (2 * (rows.length + more.length) + 1000) * by_ ≤ 2 ^ 47) :
  ∃ v w' gh', (Builtin.append_ #[t, u] ty #[.slice base rows.length cap, .slice a more.length c]).run C.P w = .ok v w' ∧ Stp B gh w gh' w' ∧ Inv C B K gh' (h.setTok s (h.tok s + 1)) w' ∧
   RA gh' w' (.st sz (rows ++ more) s (h.tok s + 1)) v := by
 have haddr : ∀ (b o j : Nat), (Bn b o).add j = Bn b (o + j) := fun b o j => Addr.add_lit _ _ _
 obtain ⟨nc, w', hrun, hnc, hw⟩ := run_grow (ty := ty) ht hu hs hb hz hby base rows.length cap ((List.range (rows.length * sz)).map fo) (by simp)
  (fun a' ha' j v hv => by
   obtain ⟨h1, rfl⟩ := B6 hv
   rw [hbase a' ha', haddr]; exact Aj.cell j h1)
  (fun hn => by rw [hnone hn]; rfl) (.slice a more.length c) more.length ((List.range (more.length * sz)).map fm) (by simp)
  ⟨Bn b2 o2, c, by rw [ha hne], fun j v hv => by
   obtain ⟨h1, rfl⟩ := B6 hv
   rw [haddr]; exact hmore.cell j h1⟩ hg hfit
 let F' : Nat → Nat → Prop := fun b o => gh.F b o ∨ (b = w.heap.size ∧ o < (rows.length + more.length) * sz)
 have hnew := hw.new
 have hsz := hw.size
 have holdF : ∀ x, ¬ gh.F w.heap.size x := fun x hx => absurd (hI.fsize _ _ hx) (Nat.lt_irrefl _)
 have htr : TRel (gh.addT s (h.tok s + 1) (w.heap.size, rows.length + more.length, nc, sz) F') B w' (w.heap.size, rows.length + more.length, nc, sz) := by
  refine ⟨hI.size, _, elem, hnew, ?_, ?_⟩
  ·simp only [List.size_toArray, List.length_append, List.length_map, List.length_range, Array.length_toList, size_zeroCells, hzs]
   rw [← Nat.add_mul, ← Nat.add_mul]
   exact Nat.mul_le_mul_right _ (by omega)
  ·rintro off hoff (hx | ⟨_, hx⟩)
   ·exact holdF _ hx
   ·simp only at hoff; omega
 obtain ⟨k, hI', hT⟩ := hI.addTok s (w.heap.size, rows.length + more.length, nc, sz) (F' := F') (hw.below hI.size) (fun _ _ h => .inl h) (fun b x hx => Bj.of_block (hw.old (hI.fsize _ _ hx)))
  (fun b hb _ => hw.old hb) (fun b x hb hx => by
   rcases hx with hx | ⟨rfl, _⟩
   ·exact hx
   ·exact absurd rfl hb) (fun s g e => absurd (hI.J_lt e) (Nat.lt_irrefl _)) (fun hK => absurd (hI.K_lt hK) (Nat.lt_irrefl _))
  (fun s' t' _ e hb => by have := hI.T_lt e; simp only at hb; omega) htr (fun b x hx => by
   rcases hx with hx | ⟨rfl, _⟩
   ·have := hI.fsize _ _ hx; omega
   ·omega)
 refine ⟨_, w', _, hrun, k, hI', ?_⟩
 have hcell : ∀ j, w'.cell? (Bn w.heap.size j) = ((((List.range (rows.length * sz)).map fo ++ (List.range (more.length * sz)).map fm) ++ (Builtin.zeroCells z.cells (nc - (rows.length + more.length))).toList))[j]? := by
  intro j
  simp [cell_of_row w' _ _ _ _ _ hnew]
 have hboth := RowsIn.both (w' := w') (F' := F') (bN := w.heap.size) Aj hmore (fun y x hd => hd.mono (fun _ _ h => .inl h) k.same)
  (fun j hj => by rw [hcell, List.append_assoc, List.getElem?_append_left (by simpa using hj)]; simp [hj])
  (fun j hj => by
   rw [hcell, List.getElem?_append_left (by simp; omega), List.getElem?_append_right (by simp)]
   simp [hj])
 have hlen : (rows ++ more).length = rows.length + more.length := by simp
 have hrd := RD.of_rows (cap := nc) (full := false) hboth (fun j hj => .inr ⟨rfl, by rw [hlen] at hj; omega⟩) (by rw [hlen]; exact hnc) (fun h => by cases h)
 rw [hlen] at hrd
 exact .st _ _ _ _ _ _ _ hrd (by rw [hT])
theorem fits_out {t u elem eu ty : TypeId} {sz : Nat} {rows more : A8} {s0 g0 : Nat} (s : Nat) (hI : Inv C B K gh h w) (hg0 : h.tok s0 = g0)
  (ht : C.P.underlying t = some (.slice elem)) (hu : C.P.underlying u = some (.slice eu)) (hs : AR C elem = some sz) (h0 : 0 < sz)
  {b cap : Nat} (hd : RD gh.F w (.sl sz false rows) (.slice (some (Bn b 0)) rows.length cap)) (hT : gh.T s0 g0 = some (b, rows.length, cap, sz))
  {a : Option Addr} {c b2 o2 : Nat} {fm : Nat → Value} (hmore : RowsIn gh.F w sz more b2 o2 fm) (ha : more ≠ [] → a = some (Bn b2 o2)) (hg : rows.length + more.length ≤ cap) :
  ∃ v w' gh', (Builtin.append_ #[t, u] ty #[.slice (some (Bn b 0)) rows.length cap, .slice a more.length c]).run C.P w = .ok v w' ∧ Stp B gh w gh' w' ∧
   Inv C B K gh' ((h.setTok s0 (g0 + 1)).setTok s ((h.setTok s0 (g0 + 1)).tok s + 1)) w' ∧ RA gh' w' (.st sz (rows ++ more) s ((h.setTok s0 (g0 + 1)).tok s + 1)) v := by
 have haddr : ∀ (b o j : Nat), (Bn b o).add j = Bn b (o + j) := fun b o j => Addr.add_lit _ _ _
 obtain ⟨⟨hB, vs, te, hblk, hvsz, hnF⟩, hJ, hK⟩ := hI.tok s0 _ (by rw [hg0]; exact hT)
 simp only at hB hblk hvsz hnF hJ hK
 have hI1 := hI.dropTok s0 (g0 + 1) (by omega)
 have hTk : ∀ s' t', s' ≠ s → gh.T s' ((h.setTok s0 (g0 + 1)).tok s') = some t' → t'.1 ≠ b := by
  intro s' t' _ e hb
  by_cases hs0 : s' = s0
  ·subst hs0; rw [H.tok_setTok_same, hI.tfresh _ _ (by omega)] at e; cases e
  ·rw [H.tok_setTok_other _ _ _ _ hs0] at e
   exact hs0 (hI.tinj s' s0 t' _ e (by rw [hg0]; exact hT) hb)
 obtain ⟨b', o', c', fo, hv, Aj⟩ : ∃ b' o' cap' f, Value.slice (some (Bn b 0)) rows.length cap = .slice (some (Bn b' o')) rows.length cap' ∧ RowsIn gh.F w sz rows b' o' f :=
  rowsOf_out (x := .d (.sl sz false rows)) hI h0 (.d _ _ hd) rfl
 simp at hv
 obtain ⟨⟨rfl, rfl⟩, rfl⟩ := hv
 have hle : rows.length * sz + more.length * sz ≤ vs.size := by
  rw [← Nat.add_mul]; exact Nat.le_trans (Nat.mul_le_mul_right _ hg) hvsz
 let news := (List.range (more.length * sz)).map fm
 have hnl : news.length = more.length * sz := by simp [news]
 let w' : World := w.setRow b (vs.toList.take (rows.length * sz) ++ news ++ vs.toList.drop (rows.length * sz + news.length)).toArray
 have hrun : (Builtin.append_ #[t, u] ty #[.slice (some (Bn b 0)) rows.length cap, .slice a more.length c]).run C.P w = .ok (.slice (some (Bn b 0)) (rows.length + more.length) cap) w' := by
  by_cases hne : more = []
  ·subst hne
   have e : w' = w := by
    have : (vs.toList.take (rows.length * sz) ++ news ++ vs.toList.drop (rows.length * sz + news.length)).toArray = vs := by simp [news]
    simp only [w', this]
    exact setRow_self w b vs te _ hblk
   rw [e]
   have := run_none (C := C) (w := w) (ty := ty) ht hu hs (some (Bn b 0)) rows.length cap (by simpa using hg) a c
   simpa using this
  ·rw [ha hne]
   exact run_fits (ty := ty) ht hu hs b rows.length cap vs te hblk (Bn b2 o2) more.length c news hnl (fun j v hv => by
    obtain ⟨h1, rfl⟩ := B6 hv
    rw [haddr]; exact hmore.cell j h1) (fun v hv => by
    obtain ⟨j, hj, rfl⟩ := List.mem_map.1 hv
    rw [one_eq]; exact hmore.one h0 j (by simpa using hj)) hg (by rw [hnl]; exact hle)
 have hblk' : w'.heap[b]? = some (.cells (vs.toList.take (rows.length * sz) ++ news ++ vs.toList.drop (rows.length * sz + news.length)).toArray te (0, 0)) := setRow_heap w b _ _ _ _ hblk
 have hother : ∀ k, k ≠ b → w'.heap[k]? = w.heap[k]? := by
  intro k hk
  simp only [w', World.setRow, Array.getElem?_modify]
  rw [if_neg (fun h => hk h.symm)]
 have hblt : b < w.heap.size := (Array.getElem?_eq_some_iff.1 hblk).1
 have hwsz : w'.heap.size = w.heap.size := by simp [w', World.setRow]
 have hcell : ∀ j, w'.cell? (Bn b j) = ((vs.toList.take (rows.length * sz) ++ news) ++ vs.toList.drop (rows.length * sz + news.length))[j]? := by
  intro j
  simp [cell_of_row w' _ _ _ _ _ hblk']
 have hcell0 : ∀ j, w.cell? (Bn b j) = vs.toList[j]? := by intro j; simp [cell_of_row w _ _ _ _ _ hblk]
 have htl : (vs.toList.take (rows.length * sz)).length = rows.length * sz := by simp; omega
 have hold : ∀ j, j < rows.length * sz → w'.cell? (Bn b j) = w.cell? (Bn b j) := by
  intro j hj
  rw [hcell, hcell0, List.append_assoc, List.getElem?_append_left (by rw [htl]; exact hj), List.getElem?_take, if_pos hj]
 let F' : Nat → Nat → Prop := fun k o => gh.F k o ∨ (k = b ∧ o < (rows.length + more.length) * sz)
 have hsame : ∀ k x, gh.F k x → Bj w w' k x := by
  intro k x hF
  by_cases hkb : k = b
  ·subst hkb
   have hx : x < rows.length * sz := Nat.lt_of_not_le (fun hle => hnF x hle hF)
   exact ⟨hold x hx, fun es c e => by rw [hblk] at e; cases e⟩
  ·exact Bj.of_block (hother k hkb)
 have htr : TRel (gh.addT s ((h.setTok s0 (g0 + 1)).tok s + 1) (b, rows.length + more.length, cap, sz) F') B w' (b, rows.length + more.length, cap, sz) := by
  refine ⟨hB, _, te, hblk', ?_, ?_⟩
  ·simp only [List.size_toArray, List.length_append, htl, List.length_drop, Array.length_toList, hnl]; omega
  ·rintro off hoff (hx | ⟨_, hx⟩)
   ·exact hnF off (Nat.le_trans (Nat.mul_le_mul_right sz (Nat.le_add_right _ _)) hoff) hx
   ·simp only at hoff; omega
 obtain ⟨k, hI', hT'⟩ := hI1.addTok s (b, rows.length + more.length, cap, sz) (w' := w') (F' := F') ⟨rfl, rfl, rfl, by omega, fun k hk => hother k (by omega)⟩ (fun _ _ h => .inl h) hsame
  (fun k _ hk => hother k hk) (fun k x hk hx => by
   rcases hx with hx | ⟨rfl, _⟩
   ·exact hx
   ·exact absurd rfl hk) hJ hK hTk htr (fun k x hx => by
   rcases hx with hx | ⟨rfl, _⟩
   ·rw [hwsz]; exact hI.fsize _ _ hx
   ·omega)
 refine ⟨_, w', _, hrun, k, hI', ?_⟩
 have hboth := RowsIn.both (w' := w') (F' := F') (bN := b) Aj hmore (fun y x hd => hd.mono (fun _ _ h => .inl h) hsame)
  (fun j hj => by rw [hold j hj]; have := Aj.cell j hj; simpa using this)
  (fun j hj => by
   rw [hcell, List.getElem?_append_left (by simp only [List.length_append, htl, hnl]; omega), List.getElem?_append_right (by rw [htl]; omega), htl]
   simp [news, hj])
 have hlen : (rows ++ more).length = rows.length + more.length := by simp
 have hrd := RD.of_rows (cap := cap) (full := false) hboth (fun j hj => .inr ⟨rfl, by rw [hlen] at hj; omega⟩) (by rw [hlen]; exact hg) (fun h => by cases h)
 rw [hlen] at hrd
 exact .st _ _ _ _ _ _ _ hrd (by rw [hT'])
end Go.Ev
namespace Go.Ev
open Go Go.RowKit
variable {C : Ctx} {B : Nat} {K : List Nat} {gh : Gh} {h : H} {w : World}
theorem flat_len {α : Type} {sz : Nat} : ∀ (l : List (List α)), (∀ r ∈ l, r.length = sz) → l.flatten.length = l.length * sz
 | [], _ => by simp
 | r :: l, h => by
  rw [List.flatten_cons, List.length_append, flat_len l (fun x hx => h x (by simp [hx])), h r (by simp), List.length_cons, Nat.add_mul]
  omega
theorem flat_get {α : Type} {sz : Nat} (h0 : 0 < sz) : ∀ (l : List (List α)), (∀ r ∈ l, r.length = sz) → ∀ (k : Nat) (y : α), l.flatten[k]? = some y → ∃ r, l[k / sz]? = some r ∧ r[k % sz]? = some y
 | [], _, k, y, e => by simp at e
 | r :: l, h, k, y, e => by
  have hr := h r (by simp)
  rw [List.flatten_cons, List.getElem?_append] at e
  split at e
  ·rename_i hk
   rw [hr] at hk
   exact ⟨r, by rw [Nat.div_eq_of_lt hk]; rfl, by rw [Nat.mod_eq_of_lt hk]; exact e⟩
  ·rename_i hk
   rw [hr] at e hk
   obtain ⟨r', h1, h2⟩ := flat_get h0 l (fun x hx => h x (by simp [hx])) _ _ e
   obtain ⟨j, rfl⟩ : ∃ j, k = sz + j := ⟨k - sz, by omega⟩
   rw [Nat.add_sub_cancel_left] at h1 h2
   refine ⟨r', ?_, ?_⟩
   ·rw [Nat.add_div_left _ h0, List.getElem?_cons_succ]; exact h1
   ·rw [Nat.add_mod_left]; exact h2
theorem RowsIn.mem_size {F : Nat → Nat → Prop} {sz : Nat} {rows : A8} {b o : Nat} {f : Nat → Value} (hr : RowsIn F w sz rows b o f) : ∀ r ∈ rows, r.length = sz := by
 intro r hm
 obtain ⟨i, hi⟩ := List.mem_iff_getElem?.1 hm
 exact hr.size i r hi
theorem RowsIn.flat {sz : Nat} {rows : A8} {b o : Nat} {f : Nat → Value} (h0 : 0 < sz) (hr : RowsIn gh.F w sz rows b o f) : RL gh w (rows.flatten.map .d) ((List.range (rows.length * sz)).map f) := by
 refine ⟨by rw [List.length_map, flat_len rows hr.mem_size]; simp, fun k a x ha hx => ?_⟩
 simp only [List.getElem?_map, Option.map_eq_some_iff] at ha
 obtain ⟨y, hy, rfl⟩ := ha
 obtain ⟨hk, rfl⟩ := B6 hx
 obtain ⟨r, h1, h2⟩ := flat_get h0 rows hr.mem_size k y hy
 have := hr.rel _ _ _ _ h1 h2
 rw [Nat.mul_comm, Nat.div_add_mod] at this
 exact .d _ _ this
theorem RL.app' {as bs : List AV} {vs us : List Value} (h1 : RL gh w as vs) (h2 : RL gh w bs us) : RL gh w (as ++ bs) (vs ++ us) := by
 refine ⟨by simp [h1.1, h2.1], fun i a x ha hx => ?_⟩
 rw [List.getElem?_append] at ha hx
 rw [← h1.1] at hx
 split at ha
 ·rename_i hi; rw [if_pos hi] at hx; exact h1.2 i a x ha hx
 ·rename_i hi; rw [if_neg hi] at hx; exact h2.2 _ a x ha hx
theorem Inv.moveObj {w' : World} {s0 g0 b : Nat} {o o' : AO} (s : Nat) (hI : Inv C B K gh h w) (hJ : gh.J s0 g0 = some b) (hg : h.get s0 g0 = some o) (hal : o ≠ .dead)
  (hos : w'.os = w.os) (htape : w'.tape = w.tape) (hout : w'.output = w.output) (hsz : w'.heap.size = w.heap.size) (hother : ∀ k, k ≠ b → w'.heap[k]? = w.heap[k]?)
  (hF : ∀ x, ¬ gh.F b x) (ho : Stp B gh w (gh.addJ s (h.count s) b (gh.Z b)) w' → ORel (gh.addJ s (h.count s) b (gh.Z b)) w' b o') :
  Stp B gh w (gh.addJ s (h.count s) b (gh.Z b)) w' ∧ Inv C B K (gh.addJ s (h.count s) b (gh.Z b)) ((h.set s0 g0 .dead).push s o') w' ∧ (gh.addJ s (h.count s) b (gh.Z b)).J s (h.count s) = some b := by
 obtain ⟨k1, hI1⟩ := hI.setObj (o' := .dead) hJ hg hos htape hout hsz hother hF (fun k => by
  have := hI.J_lt hJ
  simp only [ORel]
  rw [Array.getElem?_eq_getElem (by omega)]; rfl) hal
 have hcnt : (h.set s0 g0 .dead).count s = h.count s := by simp
 have hZ : (gh.addJ s (h.count s) b (gh.Z b)).Z = gh.Z := by
  funext b'
  simp only [Gh.addJ]
  split
  ·rename_i e; rw [e]
  ·rfl
 have hle : GLe gh (gh.addJ s (h.count s) b (gh.Z b)) := by
  refine ⟨fun s' g' b' e => ?_, fun _ _ _ e => e, fun _ _ e => e, fun s' g' b' e => by rw [hZ]⟩
  simp only [Gh.addJ]
  rw [if_neg]
  ·exact e
  ·rintro ⟨rfl, rfl⟩; rw [hI.J_count] at e; cases e
 have k : Stp B gh w (gh.addJ s (h.count s) b (gh.Z b)) w' := ⟨k1.below, hle, k1.same, fun _ _ e _ => e⟩
 have k2 : Stp B gh w' (gh.addJ s (h.count s) b (gh.Z b)) w' := ⟨.refl _ _, hle, fun _ _ _ => Bj.of_block rfl, fun _ _ e _ => e⟩
 have hnew : (gh.addJ s (h.count s) b (gh.Z b)).J s (h.count s) = some b := by simp [Gh.addJ]
 have hBb : B ≤ b := by obtain ⟨_, _, h2, _⟩ := hI.dom _ _ _ hJ; exact h2
 refine ⟨k, ?_, hnew⟩
 have hcase : ∀ s' g' b', (gh.addJ s (h.count s) b (gh.Z b)).J s' g' = some b' → (s' = s ∧ g' = h.count s ∧ b' = b) ∨ (gh.J s' g' = some b' ∧ ¬ (s' = s ∧ g' = h.count s)) := by
  intro s' g' b' e
  simp only [Gh.addJ] at e
  split at e
  ·rename_i hc; exact .inl ⟨hc.1, hc.2, by simpa using e.symm⟩
  ·rename_i hc; exact .inr ⟨e, hc⟩
 have hglt := H.get_lt hg
 have hdead : ∀ s' g', gh.J s' g' = some b → (h.set s0 g0 .dead).get s' g' = some .dead := by
  intro s' g' e
  by_cases hc : s' = s0 ∧ g' = g0
  ·obtain ⟨rfl, rfl⟩ := hc; exact H.get_set_same hg
  ·rw [H.get_set_other _ _ _ _ _ _ hglt hc]
   apply Classical.byContradiction
   intro hd
   exact hc (hI.inj _ _ _ _ _ e hJ hd (by rw [hg]; simpa using hal))
 exact {
  size := hI1.size
  dom := fun s' g' b' e => by
   rcases hcase s' g' b' e with ⟨rfl, rfl, rfl⟩ | ⟨e', hn⟩
   ·exact ⟨o', by rw [← hcnt]; exact H.get_push_same _ _ _, hBb, ho k⟩
   ·obtain ⟨o1, h1, h2, h3⟩ := hI1.dom s' g' b' e'
    exact ⟨o1, H.get_push_old h1, h2, h3.mono k2 rfl (fun x hx => hx) (by rw [hZ])⟩
  back := fun s' g' o1 e => by
   by_cases hc : s' = s ∧ g' = h.count s
   ·obtain ⟨rfl, rfl⟩ := hc; exact ⟨_, hnew⟩
   ·rw [H.get_push_other _ _ _ _ _ (by rw [hcnt]; exact hc)] at e
    obtain ⟨b', hb⟩ := hI1.back s' g' o1 e
    exact ⟨b', hle.J _ _ _ hb⟩
  inj := fun s1 g1 s2 g2 c e1 e2 d1 d2 => by
   rcases hcase _ _ _ e1 with ⟨rfl, rfl, rfl⟩ | ⟨e1', c1⟩ <;> rcases hcase _ _ _ e2 with ⟨rfl, rfl, h3⟩ | ⟨e2', c2⟩
   ·exact ⟨rfl, rfl⟩
   ·rw [H.get_push_other _ _ _ _ _ (by rw [hcnt]; exact c2)] at d2
    exact absurd (hdead _ _ e2') d2
   ·subst h3
    rw [H.get_push_other _ _ _ _ _ (by rw [hcnt]; exact c1)] at d1
    exact absurd (hdead _ _ e1') d1
   ·rw [H.get_push_other _ _ _ _ _ (by rw [hcnt]; exact c1)] at d1
    rw [H.get_push_other _ _ _ _ _ (by rw [hcnt]; exact c2)] at d2
    exact hI1.inj _ _ _ _ _ e1' e2' d1 d2
  tok := fun s' t e => by
   obtain ⟨h1, h2, h3⟩ := hI1.tok s' t e
   refine ⟨h1.mono rfl (fun x hx => hx), fun s1 g1 e1 => ?_, h3⟩
   rcases hcase _ _ _ e1 with ⟨_, _, h4⟩ | ⟨e', _⟩
   ·exact h2 s0 g0 (by rw [h4]; exact hJ)
   ·exact h2 _ _ e'
  tinj := hI1.tinj
  tfresh := hI1.tfresh
  kept := fun D hD => by
   obtain ⟨h1, h2, h3⟩ := hI1.kept D hD
   refine ⟨h1, h2, fun s1 g1 e1 => ?_⟩
   rcases hcase _ _ _ e1 with ⟨_, _, h4⟩ | ⟨e', _⟩
   ·exact h3 s0 g0 (by rw [h4]; exact hJ)
   ·exact h3 _ _ e'
  glob := fun g row e j y ey => by
   obtain ⟨x, h1, h2, h3⟩ := hI1.glob g row e j y ey
   exact ⟨x, h1, h2, h3⟩
  fsize := hI1.fsize }
theorem own_grow {t u elem eu ty : TypeId} {sz by_ : Nat} {z : Value} {cs : List AV} {more : A8} (s : Nat) (hI : Inv C B K gh h w)
  (ht : C.P.underlying t = some (.slice elem)) (hu : C.P.underlying u = some (.slice eu)) (hs : AR C elem = some sz) (hb : bytesT C elem = some by_) (hz : BL C elem = some z)
  (hzs : z.cells.size = sz) (h0 : 0 < sz) (hby : 0 < by_) {base : Option Addr} {n cap : Nat} {olds : List Value} (hlo : olds.length = n * sz) (hrl : RL gh w cs olds)
  (hbase : ∀ b, base = some b → ∀ (j : Nat) v, olds[j]? = some v → w.cell? (b.add j) = some v) (hnone : base = none → n = 0)
  {a : Option Addr} {c b2 o2 : Nat} {fm : Nat → Value} (hmore : RowsIn gh.F w sz more b2 o2 fm) (ha : more ≠ [] → a = some (Bn b2 o2)) (hne : more ≠ []) (hg : cap < n + more.length)
  (hfit : (2 * (n + more.length) + 1000) * by_ ≤ 2 ^ 47) :
  ∃ v w' gh', (Builtin.append_ #[t, u] ty #[.slice base n cap, .slice a more.length c]).run C.P w = .ok v w' ∧ Stp B gh w gh' w' ∧ Inv C B K gh' (h.push s (.cells (cs ++ more.flatten.map .d) false)) w' ∧
   RA gh' w' (.hs s (h.count s) 0 (n + more.length) sz) v := by
 have haddr : ∀ (b o j : Nat), (Bn b o).add j = Bn b (o + j) := fun b o j => Addr.add_lit _ _ _
 obtain ⟨nc, w', hrun, hnc, hw⟩ := run_grow (ty := ty) ht hu hs hb hz hby base n cap olds hlo hbase hnone (.slice a more.length c) more.length ((List.range (more.length * sz)).map fm) (by simp)
  ⟨Bn b2 o2, c, by rw [ha hne], fun j v hv => by
   obtain ⟨h1, rfl⟩ := B6 hv
   rw [haddr]; exact hmore.cell j h1⟩ hg hfit
 obtain ⟨k, hI', hJ⟩ := hI.newObj (o := .cells (cs ++ more.flatten.map .d) false) s hw (fun k => ⟨olds ++ (List.range (more.length * sz)).map fm, (Builtin.zeroCells z.cells (nc - (n + more.length))).toList, elem, hw.new, by
   simp [Gh.addJ_Z, osize], (hrl.app' (hmore.flat h0)).mono k, fun _ x hx => by
    have := hI.fsize w.heap.size x hx
    omega⟩)
 refine ⟨_, w', _, hrun, k, hI', .hs _ _ _ _ _ _ _ _ hJ hnc (fun _ => rfl) ?_⟩
 rw [Gh.addJ_Z]
 simp only [osize, List.size_toArray, List.length_append, List.length_map, List.length_range, Array.length_toList, size_zeroCells, hzs, hlo, Nat.zero_add]
 rw [← Nat.add_mul, ← Nat.add_mul]
 exact Nat.mul_le_mul_right _ (by omega)
theorem own_out {t u elem eu ty : TypeId} {sz by_ : Nat} {z : Value} {more : A8} (st : Nat) (hI : Inv C B K gh h w)
  (ht : C.P.underlying t = some (.slice elem)) (hu : C.P.underlying u = some (.slice eu)) (hs : AR C elem = some sz) (hb : bytesT C elem = some by_) (hz : BL C elem = some z)
  (hzs : z.cells.size = sz) (h0 : 0 < sz) (hby : 0 < by_) {s x : AV} {sv : Value} {h' : H} (hsv : RA gh w s sv)
  {a : Option Addr} {c b2 o2 : Nat} {fm : Nat → Value} (hmore : RowsIn gh.F w sz more b2 o2 fm) (ha : more ≠ [] → a = some (Bn b2 o2)) (e : ownAppend st sz by_ s more h = some (x, h')) :
  ∃ v w' gh', (Builtin.append_ #[t, u] ty #[sv, .slice a more.length c]).run C.P w = .ok v w' ∧ Stp B gh w gh' w' ∧ Inv C B K gh' h' w' ∧ RA gh' w' x v := by
 unfold ownAppend at e
 split at e
 ·cases e
 rename_i hem
 have hne : more ≠ [] := by simpa using hem
 have hpos : 0 < more.length := List.length_pos_iff.2 hne
 have haddr : ∀ (b o j : Nat), (Bn b o).add j = Bn b (o + j) := fun b o j => Addr.add_lit _ _ _
 split at e
 ·
  have := hsv.eq_v
  subst this
  unfold ownNew at e
  split at e
  ·rename_i hfit
   simp only [Option.some.injEq, Prod.mk.injEq] at e
   obtain ⟨rfl, rfl⟩ := e
   exact own_grow (ty := ty) (n := 0) (cap := 0) (olds := []) (base := none) st hI ht hu hs hb hz hzs h0 hby (by simp) ⟨rfl, fun i a x h => by simp at h⟩ (fun b hb => by cases hb) (fun _ => rfl) hmore ha hne (by omega) hfit
  ·cases e
 ·rename_i sz' rows
  split at e
  ·rename_i hsz; subst hsz
   cases hsv with
   | d _ _ hd =>
    obtain ⟨b', o', c', fo, hv, Aj⟩ : ∃ b' o' cap' f, sv = .slice (some (Bn b' o')) rows.length cap' ∧ RowsIn gh.F w sz' rows b' o' f :=
     rowsOf_out (x := .d (.sl sz' true rows)) hI h0 (.d _ _ hd) rfl
    subst hv
    have hcap : c' = rows.length := by
     cases hd with
     | sl _ _ _ _ _ _ _ xs hlen hcap hfull hsz hc hr => exact hfull rfl
    subst hcap
    unfold ownNew at e
    split at e
    ·rename_i hfit
     simp only [Option.some.injEq, Prod.mk.injEq] at e
     obtain ⟨rfl, rfl⟩ := e
     refine own_grow (ty := ty) (n := rows.length) (cap := rows.length) (olds := (List.range (rows.length * sz')).map fo) (base := some (Bn b' o')) st hI ht hu hs hb hz hzs h0 hby (by simp) (Aj.flat h0)
      (fun b hb j v hv => ?_) (fun h => by cases h) hmore ha hne (by omega) hfit
     simp only [Option.some.injEq] at hb
     subst hb
     obtain ⟨h1, rfl⟩ := B6 hv
     rw [haddr]; exact Aj.cell j h1
    ·cases e
  ·cases e
 ·rename_i s0 g0 off len sz'
  split at e
  ·rename_i cs eg
   split at e
   ·rename_i hcond
    obtain ⟨rfl, rfl, hlen, hcl⟩ := hcond
    cases hsv with
    | hs _ _ _ _ _ b o cap hJ hcap ho hzb =>
     obtain rfl := ho hlen
     obtain ⟨o1, h1, hBb, h3⟩ := hI.dom _ _ _ hJ
     rw [eg] at h1; obtain rfl : AO.cells cs false = o1 := by simpa using h1
     obtain ⟨vs, tl, te, hblk, hzz, hrl, hF⟩ := h3
     have hvl : vs.length = len * sz' := by rw [← hrl.1]; exact hcl
     have hcell0 : ∀ j, w.cell? (Bn b j) = (vs ++ tl)[j]? := by intro j; simp [cell_of_row w _ _ _ _ _ hblk]
     unfold ownNew at e
     split at e
     ·rename_i hfit
      simp only [Option.some.injEq, Prod.mk.injEq] at e
      obtain ⟨rfl, rfl⟩ := e
      by_cases hroom : len + more.length ≤ cap
      ·
       have hnl : ((List.range (more.length * sz')).map fm).length = more.length * sz' := by simp
       have htot : len * sz' + more.length * sz' ≤ (vs ++ tl).length := by
        rw [hzz, ← Nat.add_mul]
        have := Nat.mul_le_mul_right sz' hroom
        omega
       have hrun := run_fits (ty := ty) ht hu hs b len cap (vs ++ tl).toArray te hblk (Bn b2 o2) more.length c ((List.range (more.length * sz')).map fm) hnl (fun j v hv => by
        obtain ⟨h1, rfl⟩ := B6 hv
        rw [haddr]; exact hmore.cell j h1) (fun v hv => by
        obtain ⟨j, hj, rfl⟩ := List.mem_map.1 hv
        rw [one_eq]; exact hmore.one h0 j (by simpa using hj)) hroom (by rw [hnl]; simpa using htot)
       have etake : (vs ++ tl).toArray.toList.take (len * sz') = vs := by
        simp only [List.toList_toArray]
        rw [← hvl, List.take_left]
       rw [etake] at hrun
       have hblk' := setRow_heap w b (vs ++ tl).toArray (vs ++ (List.range (more.length * sz')).map fm ++ (vs ++ tl).toArray.toList.drop (len * sz' + ((List.range (more.length * sz')).map fm).length)).toArray te (0, 0) hblk
       have hmv := hI.moveObj (o' := .cells (cs ++ more.flatten.map .d) false) (w' := w.setRow b (vs ++ (List.range (more.length * sz')).map fm ++ (vs ++ tl).toArray.toList.drop (len * sz' + ((List.range (more.length * sz')).map fm).length)).toArray) st hJ eg (by simp) rfl rfl rfl (by simp [World.setRow]) (fun k hk => by
        simp only [World.setRow, Array.getElem?_modify]; rw [if_neg (fun h => hk h.symm)]) (hF rfl) (fun k => ⟨vs ++ (List.range (more.length * sz')).map fm, _, te, hblk', by
         rw [Gh.addJ_Z, ← hzz]
         simp only [List.length_append, List.length_drop, List.toList_toArray, hnl]
         simp only [List.length_append] at htot
         omega, (hrl.app' (hmore.flat h0)).mono k, fun _ => hF rfl⟩)
       obtain ⟨k, hI', hJ'⟩ := hmv
       have ecnt : (h.set s0 g0 .dead).count st = h.count st := by simp
       rw [ecnt]
       refine ⟨_, _, _, by rw [ha hne]; exact hrun, k, hI', .hs _ _ _ _ _ _ _ _ hJ' (by omega) (fun _ => rfl) ?_⟩
       rw [Gh.addJ_Z]; exact hzb
      ·obtain ⟨k1, hI1⟩ := hI.setObj (o' := .dead) (w' := w) hJ eg rfl rfl rfl rfl (fun _ _ => rfl) (hF rfl) (fun _ => by
        have := hI.J_lt hJ
        simp only [ORel]
        rw [Array.getElem?_eq_getElem this]; rfl) (by simp)
       refine own_grow (ty := ty) (n := len) (cap := cap) (olds := vs) (base := some (Bn b 0)) st hI1 ht hu hs hb hz hzs h0 hby hvl hrl (fun b' hb' j v hv => ?_) (fun h => by cases h) hmore ha hne (by omega) hfit
       simp only [Option.some.injEq] at hb'
       subst hb'
       rw [haddr, Nat.zero_add, hcell0, List.getElem?_append_left (List.getElem?_eq_some_iff.1 hv).1]
       exact hv
     ·cases e
   ·cases e
  ·cases e
 ·cases e
theorem nt_grow {t u elem eu ty : TypeId} {sz by_ : Nat} {z : Value} {rows more : A8} (hI : Inv C B K gh h w)
  (ht : C.P.underlying t = some (.slice elem)) (hu : C.P.underlying u = some (.slice eu)) (hs : AR C elem = some sz) (hb : bytesT C elem = some by_) (hz : BL C elem = some z)
  (hzs : z.cells.size = sz) (h0 : 0 < sz) (hby : 0 < by_) {base : Option Addr} {cap b o : Nat} {fo : Nat → Value} (Aj : RowsIn gh.F w sz rows b o fo) (hbase : ∀ a, base = some a → a = Bn b o) (hnone : base = none → rows = [])
  {a : Option Addr} {c b2 o2 : Nat} {fm : Nat → Value} (hmore : RowsIn gh.F w sz more b2 o2 fm) (ha : more ≠ [] → a = some (Bn b2 o2)) (hne : more ≠ []) (hg : cap < rows.length + more.length)
  (hfit : (2 * (rows.length + more.length) + 1000) * by_ ≤ 2 ^ 47) :
  ∃ v w' gh', (Builtin.append_ #[t, u] ty #[.slice base rows.length cap, .slice a more.length c]).run C.P w = .ok v w' ∧ Stp B gh w gh' w' ∧ Inv C B K gh' h w' ∧
   RA gh' w' (.d (.sl sz false (rows ++ more))) v := by
 have haddr : ∀ (b o j : Nat), (Bn b o).add j = Bn b (o + j) := fun b o j => Addr.add_lit _ _ _
 obtain ⟨nc, w', hrun, hnc, hw⟩ := run_grow (ty := ty) ht hu hs hb hz hby base rows.length cap ((List.range (rows.length * sz)).map fo) (by simp)
  (fun a' ha' j v hv => by
   obtain ⟨h1, rfl⟩ := B6 hv
   rw [hbase a' ha', haddr]; exact Aj.cell j h1)
  (fun hn => by rw [hnone hn]; rfl) (.slice a more.length c) more.length ((List.range (more.length * sz)).map fm) (by simp)
  ⟨Bn b2 o2, c, by rw [ha hne], fun j v hv => by
   obtain ⟨h1, rfl⟩ := B6 hv
   rw [haddr]; exact hmore.cell j h1⟩ hg hfit
 obtain ⟨k, hI'⟩ := hI.newData (n := (rows.length + more.length) * sz) hw
 have hnew := hw.new
 have hcell : ∀ j, w'.cell? (Bn w.heap.size j) = ((((List.range (rows.length * sz)).map fo ++ (List.range (more.length * sz)).map fm) ++ (Builtin.zeroCells z.cells (nc - (rows.length + more.length))).toList))[j]? := by
  intro j
  simp [cell_of_row w' _ _ _ _ _ hnew]
 refine ⟨_, w', _, hrun, k, hI', ?_⟩
 have hboth := RowsIn.both (w' := w') (F' := fun b o => gh.F b o ∨ (b = w.heap.size ∧ o < (rows.length + more.length) * sz)) (bN := w.heap.size) Aj hmore (fun y x hd => hd.mono (fun _ _ h => .inl h) k.same)
  (fun j hj => by rw [hcell, List.append_assoc, List.getElem?_append_left (by simpa using hj)]; simp [hj])
  (fun j hj => by
   rw [hcell, List.getElem?_append_left (by simp; omega), List.getElem?_append_right (by simp)]
   simp [hj])
 have hlen : (rows ++ more).length = rows.length + more.length := by simp
 have hrd := RD.of_rows (cap := nc) (full := false) hboth (fun j hj => .inr ⟨rfl, by rw [hlen] at hj; omega⟩) (by rw [hlen]; exact hnc) (fun h => by cases h)
 rw [hlen] at hrd
 exact .d _ _ hrd
theorem nt_out {t u elem eu ty : TypeId} {sz by_ : Nat} {z : Value} {more : A8} (hI : Inv C B K gh h w)
  (ht : C.P.underlying t = some (.slice elem)) (hu : C.P.underlying u = some (.slice eu)) (hs : AR C elem = some sz) (hb : bytesT C elem = some by_) (hz : BL C elem = some z)
  (hzs : z.cells.size = sz) (h0 : 0 < sz) (hby : 0 < by_) {s x : AV} {sv : Value} {h' : H} (hsv : RA gh w s sv)
  {a : Option Addr} {c b2 o2 : Nat} {fm : Nat → Value} (hmore : RowsIn gh.F w sz more b2 o2 fm) (ha : more ≠ [] → a = some (Bn b2 o2)) (e : ntAppend sz by_ s more h = some (x, h')) :
  ∃ v w' gh', (Builtin.append_ #[t, u] ty #[sv, .slice a more.length c]).run C.P w = .ok v w' ∧ Stp B gh w gh' w' ∧ Inv C B K gh' h' w' ∧ RA gh' w' x v := by
 unfold ntAppend at e
 split at e
 ·have := hsv.eq_v
  subst this
  split at e
  ·rename_i hem
   simp at e; obtain ⟨rfl, rfl⟩ := e
   have : more = [] := by simpa using hem
   subst this
   exact ⟨_, w, gh, run_none (ty := ty) ht hu hs none 0 0 (Nat.le_refl _) a c, .refl _ _ _, hI, hsv⟩
  ·rename_i hem
   have hne : more ≠ [] := by simpa using hem
   have hpos : 0 < more.length := List.length_pos_iff.2 hne
   split at e
   ·rename_i hfit
    simp only [Option.some.injEq, Prod.mk.injEq] at e
    obtain ⟨rfl, rfl⟩ := e
    have := nt_grow (ty := ty) (rows := []) (base := none) (cap := 0) (b := 0) (o := 0) (fo := fun _ => undef) hI ht hu hs hb hz hzs h0 hby ⟨fun j hj => by simp at hj, fun i r hi => by simp at hi, fun i j r y hi => by simp at hi⟩
     (fun a ha => by cases ha) (fun _ => rfl) (c := c) hmore ha hne (by simpa using hpos) (by simpa using hfit)
    simpa using this
   ·cases e
 ·rename_i sz' rows
  split at e
  ·rename_i hsz; subst hsz
   cases hsv with
   | d _ _ hd =>
    obtain ⟨b', o', c', fo, hv, Aj⟩ : ∃ b' o' cap' f, sv = .slice (some (Bn b' o')) rows.length cap' ∧ RowsIn gh.F w sz' rows b' o' f :=
     rowsOf_out (x := .d (.sl sz' true rows)) hI h0 (.d _ _ hd) rfl
    subst hv
    have hcap : c' = rows.length := by
     cases hd with
     | sl _ _ _ _ _ _ _ xs hlen hcap hfull hsz hc hr => exact hfull rfl
    subst hcap
    split at e
    ·rename_i hem
     simp at e; obtain ⟨rfl, rfl⟩ := e
     have : more = [] := by simpa using hem
     subst this
     exact ⟨_, w, gh, run_none (ty := ty) ht hu hs _ _ _ (Nat.le_refl _) a c, .refl _ _ _, hI, .d _ _ hd⟩
    ·rename_i hem
     have hne : more ≠ [] := by simpa using hem
     have hpos : 0 < more.length := List.length_pos_iff.2 hne
     split at e
     ·rename_i hfit
      simp only [Option.some.injEq, Prod.mk.injEq] at e
      obtain ⟨rfl, rfl⟩ := e
      exact nt_grow (ty := ty) (base := some (Bn b' o')) (cap := rows.length) hI ht hu hs hb hz hzs h0 hby Aj (fun a ha => by simpa using ha.symm) (fun h => by cases h) hmore ha hne (by omega) hfit
     ·cases e
  ·cases e
 ·cases e
theorem cells_store {s g b off : Nat} {cs as : List AV} {xs : List Value} (hI : Inv C B K gh h w) (hJ : gh.J s g = some b) (e1 : h.get s g = some (.cells cs false)) (hxl : RL gh w as xs)
  (hx1 : ∀ x ∈ xs, x.oneCell' = true) (hle : off + as.length ≤ cs.length) :
  ∃ w', (storeCells (Bn b off) xs).run C.P w = .ok () w' ∧ Stp B gh w gh w' ∧ Inv C B K gh (h.set s g (.cells (AL cs off as) false)) w' := by
 obtain ⟨o', h1, hBb, h3⟩ := hI.dom s g b hJ
 rw [e1] at h1; obtain rfl : AO.cells cs false = o' := by simpa using h1
 obtain ⟨vs, tl, e, hb, hzz, hrl, hF⟩ := h3
 have hcl : as.length = xs.length := hxl.1
 have hst := run_storeCells_at C.P b off e xs 0 (vs ++ tl).toArray w hb (by simp only [List.size_toArray, List.length_append]; have := hrl.1; simp only [Nat.add_zero]; omega) hx1
 simp only [Nat.add_zero] at hst
 have hvl : off + xs.length ≤ vs.length := by have := hrl.1; omega
 rw [List.take_append_of_le_length (by omega), List.drop_append_of_le_length hvl, ← List.append_assoc] at hst
 refine ⟨w.setRow b (vs.take off ++ xs ++ vs.drop (off + xs.length) ++ tl).toArray, by simpa using hst, ?_⟩
 refine hI.setObj hJ e1 rfl rfl rfl (by simp [World.setRow]) (fun k hk => ?_) (hF rfl) (fun k => ?_) (by simp)
 ·simp only [World.setRow, Array.getElem?_modify]; rw [if_neg (fun h => hk h.symm)]
 ·refine ⟨vs.take off ++ xs ++ vs.drop (off + xs.length), tl, e, ?_, ?_, ?_, fun _ => hF rfl⟩
  ·exact setRow_heap w b _ _ _ _ hb
  ·rw [← hzz]; simp only [List.length_append, List.length_take, List.length_drop]; omega
  ·rw [putCells_eq _ _ _ hle]
   have hrl' := hrl.mono k
   have hxl' := hxl.mono k
   refine RL.app' (RL.app' ⟨by simp [hrl.1], fun i a y hia hiy => ?_⟩ hxl') ⟨by simp [hrl.1, hcl], fun i a y hia hiy => ?_⟩
   ·rw [List.getElem?_take] at hia hiy
    split at hia
    ·rename_i h5; rw [if_pos h5] at hiy; exact hrl'.2 i a y hia hiy
    ·cases hia
   ·rw [List.getElem?_drop] at hia hiy
    rw [← hcl] at hiy
    exact hrl'.2 _ a y hia hiy
theorem clear_out {t elem ty : TypeId} {s g off len sz : Nat} {x : AV} {v : Value} {h' : H} (hI : Inv C B K gh h w) (ht : C.P.underlying t = some (.slice elem)) (hv : RA gh w (.hs s g off len sz) v)
  (e : clearOp C elem s g off len sz h = some (x, h')) :
  ∃ w', (Builtin.clear_ #[t] ty #[v]).run C.P w = .ok (.tuple #[]) w' ∧ Stp B gh w gh w' ∧ Inv C B K gh h' w' ∧ x = .d (.v (.tuple #[])) := by
 cases hv with
 | hs _ _ _ _ _ b o cap hJ hcap ho hzb =>
  unfold clearOp at e
  split at e
  ·rename_i h0; subst h0
   simp at e; obtain ⟨rfl, rfl⟩ := e
   exact ⟨w, by simp [Builtin.clear_, AB ht], .refl _ _ _, hI, rfl⟩
  ·rename_i h0
   split at e
   ·rename_i cs z e1 e2
    split at e
    ·rename_i hc
     obtain ⟨c1, c2, c3⟩ := hc
     simp at e; obtain ⟨rfl, rfl⟩ := e
     obtain rfl := ho (by omega)
     have hz : (Builtin.zeroCells z.cells len).toList = (List.replicate len z.cells.toList).flatten := by
      have := made_eq z.cells len
      simpa [Builtin.zeroCells] using this
     have hlen : ((List.replicate len (z.cells.toList.map fun c => AV.d (.v c))).flatten).length = len * sz := by
      rw [flat_len (sz := sz)]
      ·simp
      ·intro r hr
       have := List.eq_of_mem_replicate hr
       subst this
       simpa using c1
     obtain ⟨w', q1, q2, q3⟩ := cells_store (off := o) (as := (List.replicate len (z.cells.toList.map fun c => AV.d (.v c))).flatten) (xs := (List.replicate len z.cells.toList).flatten) hI hJ e1 (plain_flatten _ _) (fun x hx => by
      simp only [List.mem_flatten] at hx
      obtain ⟨l, hl, hx⟩ := hx
      have := List.eq_of_mem_replicate hl
      subst this
      rw [one_eq]
      simp at c3
      obtain ⟨i, hi, rfl⟩ := List.mem_iff_getElem.1 hx
      have := c3 i (by simpa using hi)
      simpa using this) (by rw [hlen]; exact c2)
     refine ⟨w', ?_, q2, by simpa using q3, rfl⟩
     obtain ⟨k, rfl⟩ : ∃ k, len = k + 1 := ⟨len - 1, by omega⟩
     rw [← hz] at q1
     simp only [Builtin.clear_, Sem.run_bind, AB ht, Result.andThen_ok, List.getElem?_toArray, List.getElem?_cons_zero]
     simp [run_zeroT e2, q1]
    ·cases e
   ·cases e
theorem getTake {α : Type} {l : List α} {k i : Nat} {x : α} (h : (l.take k)[i]? = some x) : l[i]? = some x := by
 have hi := (List.getElem?_eq_some_iff.1 h).1
 simp only [List.length_take] at hi
 rwa [List.getElem?_take_of_lt (by omega)] at h
theorem copy_out {t u eu elem ty : TypeId} {s g off len sz : Nat} {y : AV} {a : AV} {v xv : Value} {h' : H} (hI : Inv C B K gh h w) (ht : C.P.underlying t = some (.slice elem)) (hv : RA gh w (.hs s g off len sz) v) (hx : RA gh w y xv)
  (e : copyOp C elem s g off len sz y h = some (a, h')) :
  ∃ r w', (Builtin.copy_ #[t, u] ty #[v, xv]).run C.P w = .ok r w' ∧ Stp B gh w gh w' ∧ Inv C B K gh h' w' ∧ RA gh w' a r := by
 cases hv with
 | hs _ _ _ _ _ b o cap hJ hcap ho hzb =>
  unfold copyOp at e
  simp only [putFast_eq] at e
  split at e
  ·rename_i sz1 more n em en
   split at e
   ·rename_i hc
    obtain ⟨rfl, rfl, h0⟩ := hc
    obtain ⟨xa, xc, b2, o2, fm, rfl, hmore, hxa⟩ := appendee_out hI h0 hx em rfl
    have hi : ∃ i, C.P.info? elem = some i ∧ i.size = n := by
     unfold AR at en
     cases e : C.P.info? elem with
     | none => simp [e] at en
     | some i => simp [e] at en; exact ⟨i, rfl, en⟩
    obtain ⟨i, hi, hin⟩ := hi
    split at e
    ·rename_i hk
     simp at e; obtain ⟨rfl, rfl⟩ := e
     refine ⟨.int .i64 0, w, ?_, .refl _ _ _, hI, .v _⟩
     have hf : (Builtin.firstCells n 0 (.slice xa more.length xc)).run C.P w = .ok #[] w := by
      cases xa <;> simp [Builtin.firstCells, loadCells, loadCellsFrom]
     simp only [Builtin.copy_, Sem.run_bind, AB ht, Result.andThen_ok, List.getElem?_toArray, List.getElem?_cons_zero, List.getElem?_cons_succ]
     simp [Builtin.lenOf, hk, sizeOf, typeInfo, hi, hin, hf, storeCells, goInt]
    ·rename_i hk
     split at e
     ·rename_i cs eg
      split at e
      ·rename_i hle
       simp only [Option.some.injEq, Prod.mk.injEq] at e
       obtain ⟨rfl, rfl⟩ := e
       have hlen : 0 < len := by have : Nat.min more.length len ≤ len := Nat.min_le_right _ _; omega
       have hmlen : 0 < more.length := by have : Nat.min more.length len ≤ more.length := Nat.min_le_left _ _; omega
       obtain rfl := ho hlen
       have hne : more ≠ [] := by rintro rfl; simp at hmlen
       obtain rfl := hxa hne
       have hkm : Nat.min more.length len ≤ more.length := Nat.min_le_left _ _
       have hk2 : ∀ k, Nat.min more.length len = k → (more.take k).length = k := by
        intro k hk'
        simp only [List.length_take]
        omega
       have hkk : ∃ k, Nat.min more.length len = k := ⟨_, rfl⟩
       obtain ⟨k, hke⟩ := hkk
       have htl := hk2 k hke
       rw [hke] at hk hle hkm ⊢
       have Aj : RowsIn gh.F w n (more.take k) b2 o2 fm := by
        refine ⟨fun j hj => hmore.cell j ?_, fun i r hr => hmore.size i r ?_, fun i j r y hr hy => hmore.rel i j r y ?_ hy⟩
        ·rw [htl] at hj
         exact Nat.lt_of_lt_of_le hj (Nat.mul_le_mul_right _ hkm)
        ·exact getTake hr
        ·exact getTake hr
       have hrl := RowsIn.flat h0 Aj
       rw [htl] at hrl
       have hone : ∀ x ∈ (List.range (k * n)).map fm, x.oneCell' = true := by
        intro x hx
        simp only [List.mem_map, List.mem_range] at hx
        obtain ⟨j, hj, rfl⟩ := hx
        rw [one_eq]
        exact Aj.one h0 j (by rw [htl]; exact hj)
       have hal : ((more.take k).flatten.map AV.d).length = k * n := by
        have := hrl.1
        simpa using this
       obtain ⟨w', q1, q2, q3⟩ := cells_store (off := o) hI hJ eg hrl hone (by rw [hal]; exact hle)
       refine ⟨.int .i64 k, w', ?_, q2, q3, .v _⟩
       have hf := run_firstCells_some (P := C.P) w n k (Bn b2 o2) more.length xc ((List.range (k * n)).map fm) (by simp) (fun j v hv => by
        obtain ⟨hj, rfl⟩ := B6 hv
        have := Aj.cell j (by rw [htl]; exact hj)
        simp only [Addr.add, Bn]
        split
        ·rename_i h0'
         have e : j = 0 := by simpa using h0'
         subst e
         simpa using this
        ·exact this)
       simp only [Builtin.copy_, Sem.run_bind, AB ht, Result.andThen_ok, List.getElem?_toArray, List.getElem?_cons_zero, List.getElem?_cons_succ]
       simp only [Builtin.lenOf, Sem.run_pure, Result.andThen_ok, hke, sizeOf, typeInfo, Sem.run_bind, run_program, hi, hin, hf, q1, goInt]
      ·cases e
     ·cases e
   ·cases e
  ·cases e
end Go.Ev
namespace Go.Ev
open Go Go.RowKit
variable {C : Ctx} {B : Nat} {K : List Nat} {gh : Gh} {h : H} {w : World}
theorem append_out {fn : FuncId} {dst : Option Tmp} {t u eu ty : TypeId} {s x a : AV} {sv xv : Value} {h' : H} (hI : Inv C B K gh h w) (hu : C.P.underlying u = some (.slice eu)) (hs : RA gh w s sv) (hx : RA gh w x xv)
  (e : appendOp C fn dst t s x h = some (a, h')) :
  ∃ v w' gh', (Builtin.append_ #[t, u] ty #[sv, xv]).run C.P w = .ok v w' ∧ Stp B gh w gh' w' ∧ Inv C B K gh' h' w' ∧ RA gh' w' a v := by
 unfold appendOp at e
 split at e
 ·rename_i elem e1
  split at e
  ·rename_i sz by_ z e2 e3 e4
   split at e
   ·rename_i sz1 more em
    split at e
    ·rename_i hc
     obtain ⟨c1, c2, c3, c4⟩ := hc
     obtain ⟨xa, xc, b2, o2, fm, rfl, hmore, hxa⟩ := appendee_out hI c3 hx em c1
     dsimp only at e
     split at e
     ·exact nt_out (ty := ty) hI e1 hu e2 e3 e4 c2 c3 c4 hs hmore hxa e
     split at e
     ·exact own_out (ty := ty) (Au fn dst) hI e1 hu e2 e3 e4 c2 c3 c4 hs hmore hxa e
     split at e
     ·
      have hsv := hs.eq_v
      subst hsv
      split at e
      ·rename_i hem
       simp at e; obtain ⟨rfl, rfl⟩ := e
       have : more = [] := by simpa using hem
       subst this
       exact ⟨_, w, gh, run_none (ty := ty) e1 hu e2 none 0 0 (Nat.le_refl _) xa xc, .refl _ _ _, hI, hs⟩
      ·rename_i hem
       split at e
       ·rename_i hfit
        simp at e; obtain ⟨rfl, rfl⟩ := e
        have hne : more ≠ [] := by simpa using hem
        have hlen : 0 < more.length := List.length_pos_iff.2 hne
        have := grow_out (ty := ty) (rows := []) (base := none) (cap := 0) (b := 0) (o := 0) (fo := fun _ => undef) (Au fn dst) hI e1 hu e2 e3 e4 c2 c3 c4 ⟨fun j hj => by simp at hj, fun i r hi => by simp at hi, fun i j r y hi => by simp at hi⟩
         (fun a ha => by cases ha) (fun _ => rfl) (c := xc) hmore hxa hne (by simpa using hlen) (by simpa using hfit)
        simpa using this
       ·cases e
     ·rename_i sz' rows
      split at e
      ·rename_i hsz; subst hsz
       cases hs with
       | d _ _ hd =>
        cases hd with
        | sl _ _ _ b o len cap xs hlen hcap hfull hsz hc hr =>
         have hd : RD gh.F w (.sl sz' true rows) (.slice (some (Bn b o)) len cap) := .sl _ _ _ b o len cap xs hlen hcap hfull hsz hc hr
         obtain rfl := hfull rfl
         subst hlen
         split at e
         ·rename_i hem
          simp at e; obtain ⟨rfl, rfl⟩ := e
          have : more = [] := by simpa using hem
          subst this
          exact ⟨_, w, gh, run_none (ty := ty) e1 hu e2 _ _ _ (Nat.le_refl _) xa xc, .refl _ _ _, hI, .d _ _ hd⟩
         ·rename_i hem
          split at e
          ·rename_i hfit
           simp at e; obtain ⟨rfl, rfl⟩ := e
           have hne : more ≠ [] := by simpa using hem
           have hlen : 0 < more.length := List.length_pos_iff.2 hne
           obtain ⟨b', o', c', fo, hv, Aj⟩ := rowsOf_out (x := .d (.sl sz' true rows)) hI c3 (.d _ _ hd) rfl
           simp at hv
           obtain ⟨⟨rfl, rfl⟩, rfl⟩ := hv
           exact grow_out (ty := ty) (Au fn dst) hI e1 hu e2 e3 e4 c2 c3 c4 Aj (fun a ha => by simpa using ha.symm) (fun h => by cases h) hmore hxa hne (by omega) hfit
          ·cases e
      ·cases e
     ·rename_i sz' rows s0 g0
      split at e
      ·rename_i hsz
       obtain ⟨rfl, hg0⟩ := hsz
       split at e
       ·rename_i hfit
        simp at e; obtain ⟨rfl, rfl⟩ := e
        cases hs with
        | st _ _ _ _ b len cap hd hT =>
         have hd' := hd
         cases hd with
         | sl _ _ _ _ _ _ _ xs hlen hcap hfull hsz hc hr =>
          subst hlen
          by_cases hroom : rows.length + more.length ≤ cap
          ·obtain ⟨v, w', gh', q1, q2, q3, q4⟩ := fits_out (ty := ty) (Au fn dst) hI hg0 e1 hu e2 c3 hd' hT (c := xc) hmore hxa hroom
           exact ⟨v, w', gh', q1, q2, q3, q4⟩
          ·have hne : more ≠ [] := by rintro rfl; simp at hroom; omega
           obtain ⟨b', o', c', fo, hv, Aj⟩ := rowsOf_out (x := .d (.sl sz' false rows)) hI c3 (.d _ _ hd') rfl
           simp at hv
           obtain ⟨⟨rfl, rfl⟩, rfl⟩ := hv
           exact grow_out (ty := ty) (Au fn dst) (hI.dropTok s0 (g0 + 1) (by omega)) e1 hu e2 e3 e4 c2 c3 c4 Aj (fun a ha => by simpa using ha.symm) (fun h => by cases h) hmore hxa hne (by omega) hfit
       ·cases e
      ·cases e
     ·cases e
    ·cases e
   ·cases e
  ·cases e
 ·cases e
theorem makeSlice_out {t elem : TypeId} {l : Int} {lv cv : Value} {n by_ : Nat} {z : Value} (s : Nat) (hI : Inv C B K gh h w) (ht : C.P.underlying t = some (.slice elem)) (hl : ∃ k, lv = .int k l) (hc : ∃ k, cv = .int k l)
  (e1 : AR C elem = some n) (e2 : bytesT C elem = some by_) (e3 : BL C elem = some z) (h0 : 0 ≤ l) (hb : l * by_ ≤ 2 ^ 40) (hl40 : l ≤ 2 ^ 40) (hn : 0 < n) (hz : z.cells.size = n) :
  ∃ v w' gh', (Instr.makeSlice t lv cv).run C.P w = .ok v w' ∧ Stp B gh w gh' w' ∧
   Inv C B K gh' (h.push s (.cells ((List.replicate l.toNat (z.cells.toList.map fun c => AV.d (.v c))).flatten) false)) w' ∧ RA gh' w' (.hs s (h.count s) 0 l.toNat n) v := by
 obtain ⟨kl, rfl⟩ := hl
 obtain ⟨kc, rfl⟩ := hc
 have hi : ∃ i, C.P.info? elem = some i ∧ i.size = n ∧ i.bytes = by_ ∧ i.zero = some z := by
  unfold AR at e1; unfold bytesT at e2; unfold BL at e3
  cases e : C.P.info? elem with
  | none => simp [e] at e1
  | some i => simp [e] at e1 e2 e3; exact ⟨i, rfl, e1, e2, e3⟩
 obtain ⟨i, hi, rfl, rfl, hz'⟩ := hi
 have hrun := run_make (P := C.P) w t elem i z ht hi hz' kl kc l l h0 (Int.le_refl _) (by rw [Int.mul_comm]; omega) (by omega)
 have hm : (madeCells z.cells (l.toNat * i.size)).toList = (List.replicate l.toNat z.cells.toList).flatten := by
  have := made_eq z.cells l.toNat
  rw [hz] at this
  simpa [madeCells, hz] using this
 obtain ⟨gh', k, hI', hr⟩ := newHs_out (elem := elem) (sz := i.size) (len := l.toNat) (vs := (madeCells z.cells (l.toNat * i.size)).toList) s hI
  (w0 := w.alloc (.cells (madeCells z.cells (l.toNat * i.size)) elem)) (by simpa using Grows.alloc w _) (by rw [hm]; exact plain_flatten _ _) (by
   rw [hm]; simp [List.length_flatten, hz])
 exact ⟨_, _, gh', hrun, k, hI', hr⟩
theorem makeMap_out (s : Nat) (t : TypeId) (hI : Inv C B K gh h w) :
  ∃ v w' gh', (Instr.makeMap t none).run C.P w = .ok v w' ∧ Stp B gh w gh' w' ∧ Inv C B K gh' (h.push s (.map [] false)) w' ∧ RA gh' w' (.mp s (h.count s)) v := by
 obtain ⟨k, hI', hJ⟩ := hI.newObj (o := .map [] false) s (Grows.alloc w (.map #[] 0)) (fun k => by
  refine ⟨#[], 0, fun _ _ => undef, (Grows.alloc w _).new, rfl, fun _ x hx => absurd (hI.fsize _ _ hx) (Nat.lt_irrefl _), fun i e m he => by simp at he, fun i e j y he => by simp at he, fun i m e => by simp at e, fun i j m n e => by simp at e⟩)
 exact ⟨_, _, _, by simp [Instr.makeMap], k, hI', .mp _ _ _ hJ⟩
inductive RP (F : Nat → Nat → Prop) (w : World) : PV → Value → Prop
 | one (x : DV) (v : Value) (h : RD F w x v) : RP F w (.one x) v
 | agg (cs : List DV) (vs : List Value) (hl : cs.length = vs.length) (hr : ∀ (i : Nat) (y : DV) (x : Value), cs[i]? = some y → vs[i]? = some x → RD F w y x) : RP F w (.agg cs) (.agg vs.toArray)
 | ifc (t : TypeId) (cs : List DV) (vs : List Value) (hl : cs.length = vs.length) (hr : ∀ (i : Nat) (y : DV) (x : Value), cs[i]? = some y → vs[i]? = some x → RD F w y x) : RP F w (.ifc t cs) (.iface t (.agg vs.toArray))
theorem RP.mono {F F' : Nat → Nat → Prop} {w' : World} {p : PV} {v : Value} (hF : ∀ b o, F b o → F' b o) (hs : ∀ b o, F b o → Bj w w' b o) (hr : RP F w p v) : RP F' w' p v := by
 cases hr with
 | one x v h => exact .one _ _ (h.mono hF hs)
 | agg cs vs hl hr => exact .agg _ _ hl (fun i y x hy hx => (hr i y x hy hx).mono hF hs)
 | ifc t cs vs hl hr => exact .ifc _ _ _ hl (fun i y x hy hx => (hr i y x hy hx).mono hF hs)
theorem Inv.freeze {s g b : Nat} {o o' : AO} (hI : Inv C B K gh h w) (hJ : gh.J s g = some b) (hg : h.get s g = some o)
  (ho : Stp B gh w { gh with F := fun k x => gh.F k x ∨ k = b } w → ORel { gh with F := fun k x => gh.F k x ∨ k = b } w b o') (hal : o ≠ .dead) :
  Stp B gh w { gh with F := fun k x => gh.F k x ∨ k = b } w ∧ Inv C B K { gh with F := fun k x => gh.F k x ∨ k = b } (h.set s g o') w := by
 have hglt := H.get_lt hg
 have k : Stp B gh w { gh with F := fun k x => gh.F k x ∨ k = b } w := ⟨.refl _ _, ⟨fun _ _ _ e => e, fun _ _ _ e => e, fun _ _ e => .inl e, fun _ _ _ _ => rfl⟩, fun _ _ _ => Bj.of_block rfl, fun c x e hc => by
  obtain ⟨_, _, hBb, _⟩ := hI.dom _ _ _ hJ
  rcases e with e | rfl
  ·exact e
  ·omega⟩
 have hback : ∀ c x, c ≠ b → (gh.F c x ∨ c = b) → gh.F c x := fun c x hc hx => hx.resolve_right hc
 refine ⟨k, ?_⟩
 exact {
  size := hI.size
  dom := fun s' g' c e => by
   obtain ⟨o1, h1, h2, h3⟩ := hI.dom s' g' c e
   by_cases hc : s' = s ∧ g' = g
   ·obtain ⟨rfl, rfl⟩ := hc
    obtain rfl : c = b := by rw [show gh.J s' g' = some b from hJ] at e; simpa using e.symm
    exact ⟨o', H.get_set_same hg, h2, ho k⟩
   ·by_cases hd : o1 = .dead
    ·subst hd
     exact ⟨.dead, by rw [H.get_set_other _ _ _ _ _ _ hglt hc]; exact h1, h2, h3⟩
    ·have hne : c ≠ b := fun hcb => hc (by subst hcb; exact hI.inj _ _ _ _ _ e hJ (by rw [h1]; simpa using hd) (by rw [hg]; simpa using hal))
     exact ⟨o1, by rw [H.get_set_other _ _ _ _ _ _ hglt hc]; exact h1, h2, h3.mono k rfl (fun x hx => hback c x hne hx) rfl⟩
  back := fun s' g' o1 e => by
   by_cases hc : s' = s ∧ g' = g
   ·obtain ⟨rfl, rfl⟩ := hc; exact ⟨b, hJ⟩
   ·rw [H.get_set_other _ _ _ _ _ _ hglt hc] at e; exact hI.back s' g' o1 e
  inj := fun s1 g1 s2 g2 c e1 e2 d1 d2 => by
   have hup : ∀ s' g', (h.set s g o').get s' g' ≠ some .dead → h.get s' g' ≠ some .dead := by
    intro s' g' hd
    by_cases hc : s' = s ∧ g' = g
    ·obtain ⟨rfl, rfl⟩ := hc; rw [hg]; simpa using hal
    ·rwa [H.get_set_other _ _ _ _ _ _ hglt hc] at hd
   exact hI.inj _ _ _ _ _ e1 e2 (hup _ _ d1) (hup _ _ d2)
  tok := fun s' t e => by
   obtain ⟨h1, h2, h3⟩ := hI.tok s' t e
   have hne : t.1 ≠ b := fun hb => h2 s g (by rw [hb]; exact hJ)
   exact ⟨h1.mono rfl (fun x hx => hback _ x hne hx), h2, h3⟩
  tinj := hI.tinj
  tfresh := hI.tfresh
  kept := hI.kept
  glob := fun g' row e j y ey => by
   obtain ⟨x, h1, h2, h3⟩ := hI.glob g' row e j y ey
   exact ⟨x, h1, .inl h2, h3.mono (fun _ _ h => .inl h) k.same⟩
  fsize := fun c x hx => by
   rcases hx with hx | rfl
   ·exact hI.fsize c x hx
   ·exact hI.J_lt hJ }
theorem toPV_rel {a : AV} {v : Value} {p : PV} (ha : RA gh w a v) (e : toPV a = some p) : RP gh.F w p v := by
 unfold toPV at e
 split at e
 ·rename_i cs
  split at e
  ·rename_i l el
   simp at e; subst e
   cases ha with
   | agg _ vs hl hr =>
    obtain ⟨d1, d2⟩ := Cn el
    refine .agg _ _ (by omega) (fun i y x hy hx => ?_)
    have hi : i < cs.length := by have := (List.getElem?_eq_some_iff.1 hy).1; omega
    exact cellD_rel (d2 i _ y (List.getElem?_eq_getElem hi) hy) (hr i _ x (List.getElem?_eq_getElem hi) hx)
  ·cases e
 ·rename_i t cs
  split at e
  ·rename_i l el
   simp at e; subst e
   cases ha with
   | ifc _ _ _ ha =>
    cases ha with
    | agg _ vs hl hr =>
     obtain ⟨d1, d2⟩ := Cn el
     refine .ifc _ _ _ (by omega) (fun i y x hy hx => ?_)
     have hi : i < cs.length := by have := (List.getElem?_eq_some_iff.1 hy).1; omega
     exact cellD_rel (d2 i _ y (List.getElem?_eq_getElem hi) hy) (hr i _ x (List.getElem?_eq_getElem hi) hx)
  ·cases e
 ·split at e
  ·rename_i x ex
   simp at e; subst e
   exact .one _ _ (cellD_rel ex ha)
  ·cases e
theorem freeze0_out {a : AV} {v : Value} {p : PV} {h1 : H} (hI : Inv C B K gh h w) (ha : RA gh w a v) (e : freeze0 h a = some (p, h1)) :
  ∃ gh', Stp B gh w gh' w ∧ Inv C B K gh' h1 w ∧ RP gh'.F w p v := by
 unfold freeze0 at e
 split at e
 ·rename_i s g off len sz
  split at e
  ·rename_i cs fz sz2 rows eg er
   simp at e; obtain ⟨rfl, rfl⟩ := e
   cases ha with
   | hs _ _ _ _ _ b o cap hJ hcap ho hz =>
    obtain ⟨o1, h1, hBb, h3⟩ := hI.dom s g b hJ
    rw [eg] at h1; obtain rfl : AO.cells cs fz = o1 := by simpa using h1
    obtain ⟨k, hI'⟩ := hI.freeze (o' := .cells cs true) hJ eg (fun k => by
     obtain ⟨vs, tl, el, q1, qz, q2, q3⟩ := h3
     exact ⟨vs, tl, el, q1, qz, q2.mono k, fun hf => by cases hf⟩) (by simp)
    refine ⟨_, k, hI', .one _ _ ?_⟩
    obtain ⟨xs, hc, hr⟩ := h3.cells_cell
    unfold rowsOf at er
    simp only [eg] at er
    split at er
    ·rename_i l hl
     split at er
     ·rename_i ds hd
      simp at er
      obtain ⟨rfl, rfl⟩ := er
      obtain ⟨t1, t2, t3⟩ := takeCells_eq hl
      obtain ⟨d1, d2⟩ := Cn hd
      refine RD.rows (xs := fun j => xs (off + j)) (by omega) hcap (fun hf => by cases hf) (fun j hj => ⟨?_, .inr rfl⟩) (fun j y hy => ?_)
      ·have hlen : 0 < len := Nat.pos_of_ne_zero (by rintro rfl; rw [Nat.zero_mul] at t2; omega)
       rw [ho hlen]
       have := hc (off + j) (by omega)
       simpa using this
      ·have hjl : j < l.length := by have := (List.getElem?_eq_some_iff.1 hy).1; omega
       have hjl' := List.getElem?_eq_getElem hjl
       obtain ⟨q1, q2⟩ := t3 _ _ hjl'
       exact (cellD_rel (d2 _ _ y hjl' hy) (hr _ _ q2)).mono k.le.F k.same
     ·cases er
    ·cases er
  ·cases e
 ·rename_i s g
  split at e
  ·rename_i es fz eg
   simp at e; obtain ⟨rfl, rfl⟩ := e
   cases ha with
   | mp _ _ b hJ =>
    obtain ⟨o1, h1, hBb, h3⟩ := hI.dom s g b hJ
    rw [eg] at h1; obtain rfl : AO.map es fz = o1 := by simpa using h1
    obtain ⟨ms, clock, xs, q1, q2, q3, q4, q5, q6⟩ := h3
    obtain ⟨k, hI'⟩ := hI.freeze (o' := .map es true) hJ eg (fun k =>
     ⟨ms, clock, xs, q1, q2, (fun hf => by cases hf), q4, fun i e j y he hy => (q5 i e j y he hy).mono k.le.F k.same, q6⟩) (by simp)
    exact ⟨_, k, hI', .one _ _ (.mp _ b ms clock xs q1 (.inr rfl) q2 q4 (fun i e j y he hy => (q5 i e j y he hy).mono k.le.F k.same) q6)⟩
  ·cases e
 ·split at e
  ·rename_i q eq
   simp at e; obtain ⟨rfl, rfl⟩ := e
   exact ⟨gh, .refl _ _ _, hI, toPV_rel ha eq⟩
  ·cases e
theorem freezeCs_out : ∀ {cs : List AV} {vs : List Value} {gh : Gh} {h h1 : H} {ds : List DV}, Inv C B K gh h w → RL gh w cs vs → freezeCs h cs = some (ds, h1) →
  ∃ gh', Stp B gh w gh' w ∧ Inv C B K gh' h1 w ∧ ds.length = vs.length ∧ ∀ (i : Nat) y x, ds[i]? = some y → vs[i]? = some x → RD gh'.F w y x
 | [], vs, gh, h, h1, ds, hI, hl, e => by
  simp [freezeCs] at e; obtain ⟨rfl, rfl⟩ := e
  exact ⟨gh, .refl _ _ _, hI, by have := hl.1; simpa using this, fun i y x hy => by simp at hy⟩
 | a :: as, [], gh, h, h1, ds, hI, hl, e => by have := hl.1; simp at this
 | a :: as, v :: vs, gh, h, h1, ds, hI, hl, e => by
  simp only [freezeCs] at e
  split at e
  ·rename_i x h2 e1
   split at e
   ·rename_i l h3 e2
    simp only [Option.some.injEq, Prod.mk.injEq] at e
    obtain ⟨rfl, rfl⟩ := e
    obtain ⟨g1, k1, i1, r1⟩ := freeze0_out hI (hl.2 0 a v rfl rfl) e1
    have hl' : RL g1 w as vs := ⟨by have := hl.1; simpa using this, fun i y z hy hz => (hl.2 (i + 1) y z (by simpa using hy) (by simpa using hz)).mono k1⟩
    obtain ⟨g2, k2, i2, r2, r3⟩ := freezeCs_out i1 hl' e2
    refine ⟨g2, k1.trans k2, i2, by simp [r2], fun i y z hy hz => ?_⟩
    cases i with
    | zero =>
     simp at hy hz; subst hy; subst hz
     cases r1 with
     | one _ _ h => exact h.mono k2.le.F k2.same
    | succ i => exact r3 i y z (by simpa using hy) (by simpa using hz)
   ·cases e
  ·cases e
theorem freeze1_out {a : AV} {v : Value} {p : PV} {h1 : H} (hI : Inv C B K gh h w) (ha : RA gh w a v) (e : freeze1 h a = some (p, h1)) :
  ∃ gh', Stp B gh w gh' w ∧ Inv C B K gh' h1 w ∧ RP gh'.F w p v := by
 unfold freeze1 at e
 split at e
 ·rename_i r hr
  cases e
  exact freeze0_out hI ha hr
 ·split at e
  ·rename_i cs
   split at e
   ·rename_i ds h2 hd
    simp only [Option.some.injEq, Prod.mk.injEq] at e
    obtain ⟨rfl, rfl⟩ := e
    cases ha with
    | agg _ vs hl hr =>
     obtain ⟨g1, k1, i1, r1, r2⟩ := freezeCs_out hI (vs := vs) ⟨hl, hr⟩ hd
     exact ⟨g1, k1, i1, .agg _ _ r1 r2⟩
   ·cases e
  ·cases e
def RPs (F : Nat → Nat → Prop) (w : World) (ps : List PV) (vs : List Value) : Prop := ps.length = vs.length ∧ ∀ (i : Nat) p v, ps[i]? = some p → vs[i]? = some v → RP F w p v
theorem freezeAll_out : ∀ {as : List AV} {vs : List Value} {gh : Gh} {h h1 : H} {ps : List PV}, Inv C B K gh h w → RL gh w as vs → Ba h as = some (ps, h1) →
  ∃ gh', Stp B gh w gh' w ∧ Inv C B K gh' h1 w ∧ RPs gh'.F w ps vs
 | [], vs, gh, h, h1, ps, hI, hl, e => by
  simp [Ba] at e; obtain ⟨rfl, rfl⟩ := e
  refine ⟨gh, .refl _ _ _, hI, ?_, fun i p v hp => by simp at hp⟩
  have := hl.1; simpa using this
 | a :: as, [], gh, h, h1, ps, hI, hl, e => by have := hl.1; simp at this
 | a :: as, v :: vs, gh, h, h1, ps, hI, hl, e => by
  simp only [Ba] at e
  cases e1 : freeze1 h a with
  | none => simp [e1] at e
  | some q =>
   obtain ⟨p, h2⟩ := q
   simp only [e1] at e
   cases e2 : Ba h2 as with
   | none => simp [e2] at e
   | some q =>
    obtain ⟨ps', h3⟩ := q
    simp only [e2, Option.some.injEq, Prod.mk.injEq] at e
    obtain ⟨rfl, rfl⟩ := e
    obtain ⟨g1, k1, i1, r1⟩ := freeze1_out hI (hl.2 0 a v rfl rfl) e1
    have hl' : RL gh w as vs := ⟨by have := hl.1; simpa using this, fun i a x ha hx => hl.2 (i + 1) a x (by simpa using ha) (by simpa using hx)⟩
    obtain ⟨g2, k2, i2, r2⟩ := freezeAll_out i1 (hl'.mono k1) e2
    refine ⟨g2, k1.trans k2, i2, by simp [r2.1], fun i p' v' hp hv => ?_⟩
    cases i with
    | zero => simp at hp hv; subst hp; subst hv; exact r1.mono k2.le.F k2.same
    | succ i => exact r2.2 i p' v' (by simpa using hp) (by simpa using hv)
end Go.Ev
namespace Go.Ev
open Go Go.RowKit
variable {C : Ctx} {B : Nat} {K : List Nat} {gh : Gh} {h : H} {w : World}
theorem rd_mp {F : Nat → Nat → Prop} {es : List (Value × Bool × List DV)} {mb : Nat} {ms : Array MapEntry} {clock : Nat} (hr : RD F w (.mp es) (.map (some mb))) (hb : w.heap[mb]? = some (.map ms clock)) :
  es.length = ms.size ∧ Born ms clock ∧ ∀ (i : Nat) e m, es[i]? = some e → ms[i]? = some m → m.key = e.1 ∧ ∀ (gh : Gh) a, gh.F = F → valA e.2 = some a → RA gh w a m.val := by
 cases hr with
 | mp _ b ms' clock' xs hb' hF hl he hr hw =>
  rw [hb] at hb'
  simp only [Option.some.injEq, Obj.map.injEq] at hb'
  obtain ⟨rfl, rfl⟩ := hb'
  refine ⟨hl, hw, fun i e m h1 h2 => ?_⟩
  obtain ⟨k1, k2, k3, k4, k5⟩ := he i e m h1 h2
  refine ⟨k1, fun gh a hgF hv => ?_⟩
  subst hgF
  unfold valA at hv
  split at hv
  ·rename_i ht
   obtain ⟨vs, hvs⟩ := k2 ht
   simp only [Option.some.injEq] at hv
   subst hv
   rw [hvs] at k4 k5 ⊢
   have e1 : vs = vs.toList.toArray := by simp
   rw [e1]
   refine .agg _ _ (by simpa [Value.cells] using k4.symm) (fun j y x hy hx => ?_)
   simp only [List.getElem?_map, Option.map_eq_some_iff] at hy
   obtain ⟨z, hz, rfl⟩ := hy
   have hj : j < e.2.2.length := (List.getElem?_eq_some_iff.1 hz).1
   have := k5 j hj
   simp only [Value.cells] at this
   simp at hx
   rw [hx] at this
   simp at this; subst this
   exact .d _ _ (hr i e j z h1 hz)
  ·rename_i ht
   split at hv
   ·rename_i x hx
    simp only [Option.some.injEq] at hv
    subst hv
    have hone := k3 (by simpa using ht)
    have := k5 0 (by simp [hx])
    have hc : m.val.cells = #[m.val] := by
     cases hm : m.val <;> first | rfl | (rw [hm] at hone; cases hone)
    rw [hc] at this
    simp at this
    rw [this]
    exact .d _ _ (hr i e 0 x h1 (by simp [hx]))
   ·cases hv
theorem range_out {t kt et : TypeId} {es : List (Value × Bool × List DV)} {mv : Value} (s : Nat) (hI : Inv C B K gh h w) (ht : C.P.underlying t = some (.map kt et)) (hm : RA gh w (.d (.mp es)) mv) :
  ∃ v w' gh', (Instr.range t mv).run C.P w = .ok v w' ∧ Stp B gh w gh' w' ∧ Inv C B K gh' (h.push s (.iter es [])) w' ∧ RA gh' w' (.ptr s (h.count s) 0) v := by
 cases hm with
 | d _ _ hd =>
  have hd' := hd
  cases hd with
  | mp _ b ms clock xs hb hF hl he hr hw =>
   obtain ⟨k, hI', hJ⟩ := hI.newObj (o := .iter es []) s (Grows.alloc w (.mapIter (some b) clock #[] clock)) (fun k => by
    refine ⟨b, ms, clock, by simpa using (Grows.alloc w _).new, fun x hx => absurd (hI.fsize _ _ hx) (Nat.lt_irrefl _), (fun i hi => by cases hi), ?_, k.le.F _ _ hF, hd'.mono k.le.F k.same⟩
    exact (k.same _ _ hF).2 _ _ hb)
   refine ⟨_, _, _, ?_, k, hI', .ptr _ _ _ _ hJ⟩
   have hgo : (getObj b).run C.P w = .ok (.map ms clock) w := by simp [getObj, Sem.run, hb]
   simp [Instr.range, AB ht, hgo]
theorem iter_obj (hI : Inv C B K gh h w) {s g b : Nat} {es : List (Value × Bool × List DV)} {seen : List Nat} (hJ : gh.J s g = some b) (hg : h.get s g = some (.iter es seen)) :
  ∃ (mb : Nat) (ms : Array MapEntry) (clock : Nat), w.heap[b]? = some (.mapIter (some mb) clock (seen.reverse.map (bornAt ms)).toArray clock) ∧ (∀ o, ¬ gh.F b o) ∧ (∀ i ∈ seen, i < es.length) ∧
   w.heap[mb]? = some (.map ms clock) ∧ gh.F mb 0 ∧ RD gh.F w (.mp es) (.map (some mb)) := by
 obtain ⟨o, h1, _, h3⟩ := hI.dom s g b hJ
 rw [hg] at h1
 obtain rfl : AO.iter es seen = o := by simpa using h1
 exact h3
theorem find_at {ms : Array MapEntry} {clock i : Nat} {m : MapEntry} (hw : Born ms clock) (hm : ms[i]? = some m) : ms.find? (fun e => e.born == m.born) = some m := by
 cases e : ms.find? (fun e => e.born == m.born) with
 | none =>
  rw [Array.find?_eq_none] at e
  have := e m (Array.mem_of_getElem? hm)
  simp at this
 | some n =>
  have h1 := Array.find?_some e
  obtain ⟨j, hj⟩ := Array.mem_iff_getElem?.1 (Array.mem_of_find?_eq_some e)
  obtain rfl := hw.2 j i n m hj hm (by simpa using h1)
  rw [hm] at hj; exact hj.symm
theorem entry_out {s g : Nat} {iv : Value} {es : List (Value × Bool × List DV)} {i : Nat} {seen : List Nat} {a : AV} (hI : Inv C B K gh h w) (hv : RA gh w (.ptr s g 0) iv) (hg : h.get s g = some (.iter es (i :: seen)))
  (ha : entryA es i = some a) : ∃ v, (Instr.entry iv).run C.P w = .ok v w ∧ RA gh w a v := by
 cases hv with
 | ptr _ _ _ b hJ =>
  obtain ⟨mb, ms, clock, h1, h2, h3, h4, h5, h6⟩ := iter_obj hI hJ hg
  obtain ⟨q1, q2, q3⟩ := rd_mp h6 h4
  have hi : i < ms.size := by have := h3 i (by simp); omega
  have hm : ms[i]? = some ms[i] := Array.getElem?_eq_getElem hi
  unfold entryA at ha
  cases he : es[i]? with
  | none => simp [he] at ha
  | some e =>
   simp only [he] at ha
   cases hva : valA e.2 with
   | none => simp [hva] at ha
   | some y =>
    simp only [hva, Option.some.injEq] at ha
    subst ha
    obtain ⟨r1, r2⟩ := q3 i e _ he hm
    refine ⟨.tuple #[ms[i].key, ms[i].val], ?_, ?_⟩
    ·have hgo : (getObj b).run C.P w = .ok (.mapIter (some mb) clock ((i :: seen).reverse.map (bornAt ms)).toArray clock) w := by simp only [getObj, Sem.run, h1]
     have hgo2 : (getObj mb).run C.P w = .ok (.map ms clock) w := by simp only [getObj, Sem.run, h4]
     have hback : ((i :: seen).reverse.map (bornAt ms)).toArray.back? = some ms[i].born := by simp [bornAt, hm]
     have hfind := find_at q2 hm
     simp only [Instr.entry, Sem.run_bind, hgo, Result.andThen_ok, hback, hgo2, bne_self_eq_false, Bool.false_eq_true, if_false, Sem.run_pure, hfind]
    ·refine .tup [ofV1 e.1, y] [ms[i].key, ms[i].val] rfl (fun j z x hz hx => ?_)
     match j, hz, hx with
     | 0, hz, hx => simp at hz hx; subst hz; subst hx; rw [r1]; exact .of_v1 _
     | 1, hz, hx => simp at hz hx; subst hz; subst hx; exact r2 gh y rfl hva
     | j + 2, hz, hx => simp at hz
end Go.Ev
