/- What the proof of this claim needs: part MB. No conditions. -/
import Derived.Test.YtbgdnghnfdijnaaGreatDoorMA
import Derived.RangeFuncRecord
import Derived.LoopNIn
set_option linter.unusedVariables false
set_option linter.unusedSimpArgs false
namespace Go.Ev
open Go Go.RowKit
variable {C : Ctx} {B : Nat} {K : List Nat} {gh : Gh} {h : H} {w : World}
theorem Out.ofV {s : Sem Value} {v : Value} {w' : World} {gh' : Gh} {h' : H} {a : AV} (hs : s.run C.P w = .ok v w') (k : Stp B gh w gh' w') (hI : Inv C B K gh' h' w') (ha : RA gh' w' a v) :
  Out C B K gh h' w a ((do pure (Next.value (← s)) : Sem Next).run C.P w) := ⟨v, w', gh', .inl (by simp [hs]), k, hI, ha⟩
theorem Out.ofU {s : Sem Unit} {w' : World} {gh' : Gh} {h' : H} (hs : s.run C.P w = .ok () w') (k : Stp B gh w gh' w') (hI : Inv C B K gh' h' w') :
  Out C B K gh h' w B7 ((do s; pure Next.skip : Sem Next).run C.P w) := ⟨undef, w', gh', .inr ⟨by simp [hs], rfl⟩, k, hI, .v _⟩
theorem opFun_out {fn : FuncId} {o : Oper} {ρ : Operand → AV} {ρc : Operand → Value} {a : AV} {h' : H} (hI : Inv C B K gh h w) (hρ : ∀ x, RA gh w (ρ x) (ρc x))
  (e : AA C fn o ρ h = some (a, h')) (hnc : ∀ c f, o.op = .call c → c.callee ≠ .value f) (hni : ∀ c rv m, o.op = .call c → c.callee ≠ .invoke rv m) : Out C B K gh h' w a ((execOp ρc o).run C.P w) := by
 have plain : (match B5 C o ρ with | some a => some (a, h) | none => none) = some (a, h') → (∀ cs b, o.op ≠ .select cs b) → Out C B K gh h' w a ((execOp ρc o).run C.P w) := by
  intro e hs
  split at e
  ·rename_i a' hp
   simp at e; obtain ⟨rfl, rfl⟩ := e
   exact plainOp_out hI hρ hs hp
  ·cases e
 unfold AA at e
 dsimp only at e
 split at e
 ·rename_i x hop
  simp at e; obtain ⟨rfl, rfl⟩ := e
  simp only [execOp, hop]; exact .same hI rfl (hρ x)
 ·rename_i x hop
  simp at e; obtain ⟨rfl, rfl⟩ := e
  simp only [execOp, hop]; exact .same hI rfl (hρ x)
 ·rename_i c x y hop
  split at e
  ·rename_i t ht
   simp at e; obtain ⟨rfl, rfl⟩ := e
   have hc := hρ c
   rw [ht] at hc
   simp only [execOp, hop]
   refine .same hI (v := if t then ρc x else ρc y) (by simp [hc.eq_v, asBool]) ?_
   cases t
   ·exact hρ y
   ·exact hρ x
  ·cases e
 ·rename_i t hop
  split at e
  ·rename_i z hz
   simp only [newObj, Option.some.injEq, Prod.mk.injEq] at e; obtain ⟨rfl, rfl⟩ := e
   simp only [execOp, hop]; exact alloc_out _ hI hz
  ·cases e
 ·rename_i t x hop
  split at e
  ·rename_i hc
   simp only [newObj, Option.some.injEq, Prod.mk.injEq] at e; obtain ⟨rfl, rfl⟩ := e
   simp only [execOp, hop]; exact box_out _ hI (hρ x) hc
  ·cases e
 ·rename_i t parts hop
  simp only [execOp, hop]
  split at e
  ·rename_i z fs hz ht
   split at e
   ·rename_i places hp
    split at e
    ·rename_i cs hcs
     simp at e; obtain ⟨rfl, rfl⟩ := e
     obtain ⟨v, h1, h2⟩ := build_out hI hρ hz (.inl ⟨fs, places, ht, hp, hcs⟩)
     exact .ofV h1 (.refl _ _ _) hI h2
    ·cases e
   ·cases e
  ·rename_i z m elem hz ht
   split at e
   ·rename_i n hn
    split at e
    ·rename_i cs hcs
     simp at e; obtain ⟨rfl, rfl⟩ := e
     obtain ⟨v, h1, h2⟩ := build_out hI hρ hz (.inr ⟨m, elem, n, ht, hn, hcs⟩)
     exact .ofV h1 (.refl _ _ _) hI h2
    ·cases e
   ·cases e
  ·cases e
 ·rename_i t len parts hop
  simp only [execOp, hop]
  split at e
  ·rename_i elem ht
   split at e
   ·rename_i n z hn hz
    split at e
    ·rename_i hc
     obtain ⟨c1, c2, c3⟩ := hc
     split at e
     ·rename_i cs hcs
      obtain ⟨vs, hrun, hl⟩ := run_buildSlice (ρc := ρc) hρ ht hn hz c1 c2 c3 hcs
      have hg : Grows w (w.alloc (.cells vs elem)) (.cells vs.toList.toArray elem (0, 0)) := by simpa using Grows.alloc w (.cells vs elem)
      have hlen : cs.length = len * n := by
       have hfl : ∀ (place : Nat → Option (Nat × Nat)) (parts : List (Nat × AV)) (cells cs : List AV), aFill place cells parts = some cs → cs.length = cells.length := by
        intro place parts
        induction parts with
        | nil => intro cells cs h; simp [aFill] at h; subst h; rfl
        | cons p parts ih =>
         intro cells cs h
         obtain ⟨i, a⟩ := p
         simp only [aFill] at h
         cases hp : place i with
         | none => simp [hp] at h
         | some os =>
          simp only [hp] at h
          split at h
          ·cases h
          ·have hpl : ∀ (l : List AV) (cs : List AV) (off : Nat), (AL cs off l).length = cs.length := by
            intro l
            induction l with
            | nil => intro cs off; rfl
            | cons x r ih => intro cs off; simp [AL, ih]
           rw [ih _ _ h, hpl]
       rw [hfl _ _ _ _ hcs]
       simp [c2]
      split at e
      ·simp at e; obtain ⟨rfl, rfl⟩ := e
       obtain ⟨gh', k, hI', hr⟩ := newHs_out (sz := n) (len := len) (Au fn o.dst) hI hg hl (by rw [← hl.1]; omega)
       exact .ofV hrun k hI' hr
      ·split at e
       ·rename_i ds hds
        simp at e; obtain ⟨rfl, rfl⟩ := e
        obtain ⟨gh', k, hI', hr⟩ := newSlice_out (t := t) hI hg hl hds hlen
        exact .ofV hrun k hI' hr
       ·cases e
     ·cases e
    ·cases e
   ·cases e
  ·cases e
 ·rename_i t x hop
  simp only [execOp, hop]
  split at e
  ·rename_i a' ha
   simp at e; obtain ⟨rfl, rfl⟩ := e
   obtain ⟨v, h1, h2⟩ := loadOp_out hI (hρ x) ha
   exact .ofV h1 (.refl _ _ _) hI h2
  ·cases e
 ·rename_i t x y hop
  simp only [execOp, hop]
  split at e
  ·rename_i h1 hs
   simp at e; obtain ⟨rfl, rfl⟩ := e
   obtain ⟨w', q1, q2, q3⟩ := storeOp_out hI (hρ x) (hρ y) hs
   exact .ofU q1 q2 q3
  ·cases e
 ·rename_i x hop
  have hx := hρ x
  split at e
  ·rename_i s g off hx'
   rw [hx'] at hx
   simp at e; obtain ⟨rfl, rfl⟩ := e
   simp only [execOp, hop]
   cases hx' : ρc x with
   | pointer p =>
    rw [hx'] at hx
    cases hx with
    | ptr _ _ _ b hJ => exact .same hI rfl (.ptr _ _ _ _ hJ)
   | _ => rw [hx'] at hx; cases hx
  ·rename_i r off hx'
   rw [hx'] at hx
   simp at e; obtain ⟨rfl, rfl⟩ := e
   simp only [execOp, hop]
   cases hx' : ρc x with
   | pointer p =>
    rw [hx'] at hx
    cases hp : p with
    | none => subst hp; cases hx
    | some ad => subst hp; exact .same hI rfl hx
   | _ => rw [hx'] at hx; cases hx
  ·rename_i f l1 l2 hx'
   rw [hx'] at hx
   split at e
   ·rename_i g
    simp at e; obtain ⟨rfl, rfl⟩ := e
    simp only [execOp, hop]
    cases hv : ρc x with
    | func ff fi ca =>
     rw [hv] at hx
     have hff : ff = .func g := by cases hx; rfl
     subst hff
     exact .same hI rfl hx
    | _ => rw [hv] at hx; cases hx
   ·rename_i s g
    simp at e; obtain ⟨rfl, rfl⟩ := e
    simp only [execOp, hop]
    cases hv : ρc x with
    | func ff fi ca =>
     rw [hv] at hx
     have hff : ∃ b, ff = .yield b := by cases hx; exact ⟨_, rfl⟩
     obtain ⟨b, rfl⟩ := hff
     exact .same hI rfl hx
    | _ => rw [hv] at hx; cases hx
   ·cases e
  ·exact plain e (fun cs b h => by rw [hop] at h; cases h)
 ·rename_i op t x y t2 hop
  split at e
  ·rename_i a' hp
   simp at e; obtain ⟨rfl, rfl⟩ := e
   exact plainOp_out hI hρ (fun cs b h => by rw [hop] at h; cases h) hp
  ·split at e
   ·split at e
    ·rename_i b hb
     simp at e; obtain ⟨rfl, rfl⟩ := e
     obtain ⟨td, b1, b2, q1, q2, q3, q4, rfl⟩ := eqNil_rel (hρ x) (hρ y) hb
     simp only [execOp, hop]
     exact .same hI (by simp [eqGuard_nil q2 q3, (binEql_nil (w := w) q1 q2 q3 q4).1]) (.v _)
    ·cases e
   ·split at e
    ·rename_i b hb
     simp at e; obtain ⟨rfl, rfl⟩ := e
     obtain ⟨td, b1, b2, q1, q2, q3, q4, rfl⟩ := eqNil_rel (hρ x) (hρ y) hb
     simp only [execOp, hop]
     exact .same hI (by simp [eqGuard_nil q2 q3, (binEql_nil (w := w) q1 q2 q3 q4).2]) (.v _)
    ·cases e
   ·cases e
 ·rename_i t x lo hi mx hop
  split at e
  ·rename_i a' ha
   simp at e; obtain ⟨rfl, rfl⟩ := e
   obtain ⟨v, h1, h2⟩ := slice_out hρ (hρ x) ha
   simp only [execOp, hop]
   exact .ofV h1 (.refl _ _ _) hI h2
  ·exact plain e (fun cs b h => by rw [hop] at h; cases h)
 ·rename_i t x f hop
  simp only [execOp, hop]
  split at e
  ·rename_i a' ha
   simp at e; obtain ⟨rfl, rfl⟩ := e
   obtain ⟨v, h1, h2⟩ := fieldAddr_out (hρ x) ha
   exact .ofV h1 (.refl _ _ _) hI h2
  ·cases e
 ·rename_i t x i hop
  simp only [execOp, hop]
  split at e
  ·rename_i a' ha
   simp at e; obtain ⟨rfl, rfl⟩ := e
   obtain ⟨v, h1, h2⟩ := indexAddr_out (hρ x) (hρ i) ha
   exact .ofV h1 (.refl _ _ _) hI h2
  ·cases e
 ·rename_i t x f hop
  simp only [execOp, hop]
  split at e
  ·rename_i cs fs hx ht
   split at e
   ·rename_i fd hf
    split at e
    ·rename_i a' ha
     simp at e; obtain ⟨rfl, rfl⟩ := e
     have hx' := hρ x
     rw [hx] at hx'
     cases hv : ρc x with
     | agg vs =>
      rw [hv] at hx'
      have hl : RL gh w cs vs.toList := by
       cases hx' with
       | agg _ vs hl hr => exact ⟨by simpa using hl, by simpa using hr⟩
      obtain ⟨v, h1, h2⟩ := aPart_out hl ha
      exact .ofV (v := v) (by simp [Instr.field, AB ht, hf, asAgg, h1]) (.refl _ _ _) hI h2
     | _ => rw [hv] at hx'; cases hx'
    ·cases e
   ·cases e
  ·cases e
 ·rename_i t x i hop
  split at e
  ·rename_i cs len elem iv hx ht hi
   split at e
   ·rename_i n hn
    split at e
    ·rename_i hb
     split at e
     ·rename_i a' ha
      simp at e; obtain ⟨rfl, rfl⟩ := e
      simp only [execOp, hop]
      have hx' := hρ x
      rw [hx] at hx'
      obtain ⟨k, hk⟩ := intOfA_eq hi (hρ i)
      cases hv : ρc x with
      | agg vs =>
       rw [hv] at hx'
       have hl : RL gh w cs vs.toList := by
        cases hx' with
        | agg _ vs hl hr => exact ⟨by simpa using hl, by simpa using hr⟩
       obtain ⟨v, h1, h2⟩ := aPart_out hl ha
       exact .ofV (v := v) (by simp [Instr.index, AB ht, hk, asIntOf, hb, Bi hn, h1]) (.refl _ _ _) hI h2
      | _ => rw [hv] at hx'; cases hx'
     ·cases e
    ·cases e
   ·cases e
  ·exact plain e (fun cs b h => by rw [hop] at h; cases h)
 ·rename_i x ix hop
  simp only [execOp, hop]
  split at e
  ·rename_i vs hx
   split at e
   ·rename_i a' ha
    simp at e; obtain ⟨rfl, rfl⟩ := e
    have hx' := hρ x
    rw [hx] at hx'
    cases hv : ρc x with
    | tuple us =>
     rw [hv] at hx'
     have hl : RL gh w vs us.toList := by
      cases hx' with
      | tup _ vs hl hr => exact ⟨by simpa using hl, by simpa using hr⟩
     obtain ⟨v, h1, h2⟩ := hl.get ha
     exact .ofV (v := v) (by simp at h1; simp [Instr.extract, h1]) (.refl _ _ _) hI h2
    | _ => rw [hv] at hx'; cases hx'
   ·cases e
  ·cases e
 ·rename_i f first cap hop
  simp only [execOp, hop]
  simp at e; obtain ⟨rfl, rfl⟩ := e
  refine .ofV (v := .func f (first.map ρc) (cap.map ρc)) (by simp [Instr.makeFunc]) (.refl _ _ _) hI ?_
  have := RA.fn (gh := gh) (w := w) f (first.toList.map ρ) (cap.toList.map ρ) (first.toList.map ρc) (cap.toList.map ρc) (by simp) (by simp)
   (fun i a x ha hx => by
    simp only [List.getElem?_map, Option.map_eq_some_iff] at ha hx
    obtain ⟨y, hy, rfl⟩ := ha
    obtain ⟨z, hz, rfl⟩ := hx
    rw [hy] at hz; simp at hz; subst hz; exact hρ _)
   (fun i a x ha hx => by
    simp only [List.getElem?_map, Option.map_eq_some_iff] at ha hx
    obtain ⟨y, hy, rfl⟩ := ha
    obtain ⟨z, hz, rfl⟩ := hx
    rw [hy] at hz; simp at hz; subst hz; exact hρ _)
  have e1 : first.map ρc = (first.toList.map ρc).toArray := by rw [← Array.toList_inj, Array.toList_map]
  have e2 : cap.map ρc = (cap.toList.map ρc).toArray := by rw [← Array.toList_inj, Array.toList_map]
  rw [e1, e2]; exact this
 ·rename_i t r hop
  split at e
  ·simp at e; obtain ⟨rfl, rfl⟩ := e
   obtain ⟨v, w', gh', h1, k, hI', hr⟩ := makeMap_out (Au fn o.dst) t hI
   simp only [execOp, hop]
   exact .ofV h1 k hI' hr
  ·cases e
 ·rename_i t m k ok hop
  simp only [execOp, hop]
  split at e
  ·rename_i es hes
   split at e
   ·rename_i a' ha
    simp at e; obtain ⟨rfl, rfl⟩ := e
    obtain ⟨v, h1, h2⟩ := lookup_out hI (hρ m) (hρ k) hes ha
    exact .ofV h1 (.refl _ _ _) hI h2
   ·cases e
  ·split at e
   ·rename_i a' ha
    simp at e; obtain ⟨rfl, rfl⟩ := e
    obtain ⟨v, h1, h2⟩ := tab_out (hρ m) (hρ k) ha
    exact .ofV h1 (.refl _ _ _) hI h2
   ·cases e
 ·rename_i t x hop
  simp only [execOp, hop]
  split at e
  ·rename_i kt et es ht hx
   simp only [newObj, Option.some.injEq, Prod.mk.injEq] at e; obtain ⟨rfl, rfl⟩ := e
   have hx' := hρ x
   rw [hx] at hx'
   obtain ⟨v, w', gh', h1, k, hI', hr⟩ := range_out (Au fn o.dst) hI ht hx'
   exact .ofV h1 k hI' hr
  ·cases e
 ·rename_i it hop
  simp only [execOp, hop]
  split at e
  ·rename_i s g hx
   split at e
   ·rename_i es i sn hg
    split at e
    ·rename_i a' ha
     simp at e; obtain ⟨rfl, rfl⟩ := e
     have hx' := hρ it
     rw [hx] at hx'
     obtain ⟨v, h1, h2⟩ := entry_out hI hx' hg ha
     exact .ofV h1 (.refl _ _ _) hI h2
    ·cases e
   ·cases e
  ·cases e
 ·rename_i t m k x hop
  simp only [execOp, hop]
  split at e
  ·rename_i h1 hs
   simp at e; obtain ⟨rfl, rfl⟩ := e
   obtain ⟨w', q1, q2, q3⟩ := update_out hI (hρ m) (hρ k) (hρ x) hs
   exact .ofU q1 q2 q3
  ·cases e
 ·rename_i t m k x hop
  simp only [execOp, hop]
  split at e
  ·rename_i h1 hs
   simp at e; obtain ⟨rfl, rfl⟩ := e
   obtain ⟨w', q1, q2, q3⟩ := update_out hI (hρ m) (hρ k) (hρ x) hs
   exact .ofU q1 q2 q3
  ·cases e
 ·rename_i t l c hop
  simp only [execOp, hop]
  split at e
  ·rename_i elem lv cv ht hl hc
   split at e
   ·rename_i n by_ z e1 e2 e3
    split at e
    ·rename_i hcond
     obtain ⟨c1, rfl, c3, c4, c5, c6⟩ := hcond
     simp at e; obtain ⟨rfl, rfl⟩ := e
     obtain ⟨v, w', gh', h1, k, hI', hr⟩ := makeSlice_out (Au fn o.dst) hI ht (intOfA_eq hl (hρ l)) (intOfA_eq hc (hρ c)) e1 e2 e3 c1 c3 c4 c5 c6
     exact .ofV h1 k hI' hr
    ·cases e
   ·cases e
  ·cases e
 ·rename_i c hop
  split at e
  ·rename_i hcal
   split at e
   ·rename_i x t ts hargs hts
    split at e
    ·rename_i n hn
     simp at e; obtain ⟨rfl, rfl⟩ := e
     have ha : c.args = #[x] := by rw [← Array.toList_inj, hargs]
     have ht : c.argTypes[0]? = some t := by rw [← Array.getElem?_toList, hts]; rfl
     have := len_out (ty := o.type) ht hI (hρ x) hn
     simp only [execOp, hop, resolve, hcal, ha]
     exact .same hI (v := .int .i64 n) (by simp [invoke, builtin, this]) (.v _)
    ·exact plain e (fun cs b h => by rw [hop] at h; cases h)
   ·cases e
  ·rename_i hcal
   split at e
   ·rename_i s x t u hargs hts
    split at e
    ·rename_i eu hu
     have ha : c.args = #[s, x] := by rw [← Array.toList_inj, hargs]
     have ht : c.argTypes = #[t, u] := by rw [← Array.toList_inj, hts]
     obtain ⟨v, w', gh', q1, q2, q3, q4⟩ := append_out (ty := o.type) hI hu (hρ s) (hρ x) e
     simp only [execOp, hop, resolve, hcal, ha, ht]
     exact ⟨v, w', gh', .inl (by simp [invoke, builtin, q1]), q2, q3, q4⟩
    ·cases e
   ·cases e
  ·rename_i hcal
   split at e
   ·rename_i x t hargs hts
    split at e
    ·rename_i elem s g off len sz ht hx
     have ha : c.args = #[x] := by rw [← Array.toList_inj, hargs]
     have htt : c.argTypes = #[t] := by rw [← Array.toList_inj, hts]
     obtain ⟨w', q1, q2, q3, rfl⟩ := clear_out (ty := o.type) hI ht (by rw [← hx]; exact hρ x) e
     simp only [execOp, hop, resolve, hcal, ha, htt]
     exact ⟨_, w', gh, .inl (by simp [invoke, builtin, q1]), q2, q3, .v _⟩
    ·exact plain e (fun cs b h => by rw [hop] at h; cases h)
   ·cases e
  ·rename_i hcal
   split at e
   ·rename_i d x t u hargs hts
    split at e
    ·rename_i elem eu s g off len sz ht hu hd
     have ha : c.args = #[d, x] := by rw [← Array.toList_inj, hargs]
     have htt : c.argTypes = #[t, u] := by rw [← Array.toList_inj, hts]
     obtain ⟨r, w', q1, q2, q3, q4⟩ := copy_out (u := u) (eu := eu) (ty := o.type) hI ht (by rw [← hd]; exact hρ d) (hρ x) e
     simp only [execOp, hop, resolve, hcal, ha, htt]
     exact ⟨r, w', gh, .inl (by simp [invoke, builtin, q1]), q2, q3, q4⟩
    ·cases e
   ·cases e
  ·exact plain e (fun cs b h => by rw [hop] at h; cases h)
  ·rename_i f hcal
   exact absurd hcal (hnc c f hop)
  ·rename_i rv m hcal
   exact absurd hcal (hni c rv m hop)
 ·rename_i t x hop
  split at e
  ·rename_i a' hp
   simp at e; obtain ⟨rfl, rfl⟩ := e
   exact plainOp_out hI hρ (fun cs b h => by rw [hop] at h; cases h) hp
  ·split at e
   ·rename_i fs ht
    simp at e; obtain ⟨rfl, rfl⟩ := e
    simp only [execOp, hop]
    exact .ofV (v := .iface t (ρc x)) (by simp [Instr.makeInterface, AB ht]) (.refl _ _ _) hI (.ifc t _ _ (hρ x))
   ·cases e
 ·rename_i x xt asserted ok hop
  split at e
  ·rename_i t a1 hx
   have hx' := hρ x
   rw [hx] at hx'
   generalize hv : ρc x = v at hx'
   cases hx' with
   | ifc _ _ v0 hv0 =>
    have two : ∀ (y : AV) (u : Value) (b : Bool), RA gh w y u → RA gh w (.tup [y, .d (.v (.bool b))]) (.tuple #[u, .bool b]) := fun y u b h =>
     .tup [y, .d (.v (.bool b))] [u, .bool b] rfl fun i a x ha hx => by
      match i, ha, hx with
      | 0, ha, hx => simp at ha hx; subst ha; subst hx; exact h
      | 1, ha, hx => simp at ha hx; subst ha; subst hx; exact .v _
      | i + 2, ha, hx => simp at ha
    split at e
    ·rename_i fs ht
     simp only [execOp, hop]
     split at e
     ·rename_i heq
      subst heq
      simp at e; obtain ⟨rfl, rfl⟩ := e
      cases ok
      ·exact .ofV (v := v0) (by simp [Instr.typeAssert, hv, AB ht]) (.refl _ _ _) hI hv0
      ·exact .ofV (v := .tuple #[v0, .bool true]) (by simp [Instr.typeAssert, hv, AB ht]) (.refl _ _ _) hI (two _ _ _ hv0)
     ·rename_i hne
      split at e
      ·rename_i hok
       split at e
       ·rename_i z hz
        simp at e; obtain ⟨rfl, rfl⟩ := e
        exact .ofV (v := .tuple #[z, .bool false]) (by simp [Instr.typeAssert, hv, AB ht, hne, hok, run_zeroT hz]) (.refl _ _ _) hI (two _ _ _ (.of_v1 z))
       ·cases e
      ·cases e
    ·cases e
  ·exact plain e (fun cs b h => by rw [hop] at h; cases h)
 ·cases e
 ·cases e
 ·cases e
 ·rename_i h1 h2 h3 h4
  refine plain e (fun cs b h => ?_)
  simp_all
end Go.Ev
namespace Go.Ev
open Go Go.RowKit
variable {C : Ctx} {B : Nat} {K : List Nat} {gh : Gh} {h : H} {w : World}
mutual
def BD (L : List Nat) : AV → Bool
 | .d _ => true
 | .agg cs => AT L cs
 | .tup cs => AT L cs
 | .ptr s _ _ => !L.contains s
 | .pin _ _ => true
 | .st _ _ _ _ => true
 | .hs s _ _ _ _ => !L.contains s
 | .mp s _ => !L.contains s
 | .fn (.fn _) as cs => AT L as && AT L cs
 | .fn (.yield s _) as cs => !L.contains s
 | .ifc _ a => BD L a
 | .top => true
def AT (L : List Nat) : List AV → Bool
 | [] => true
 | a :: r => BD L a && AT L r
end
theorem avFreeL_get {L : List Nat} : ∀ {l : List AV}, AT L l = true → ∀ (i : Nat) (a : AV), l[i]? = some a → BD L a = true
 | [], _, i, a, e => by simp at e
 | b :: r, h, 0, a, e => by simp at e; subst e; simp only [AT, Bool.and_eq_true] at h; exact h.1
 | b :: r, h, i + 1, a, e => by simp only [AT, Bool.and_eq_true] at h; exact avFreeL_get h.2 i a (by simpa using e)
def Gh.drop (gh : Gh) (L : List Nat) : Gh := { gh with J := fun s g => if L.contains s then none else gh.J s g }
theorem RA.drop {L : List Nat} {a : AV} {v : Value} (h : RA gh w a v) (hf : BD L a = true) : RA (gh.drop L) w a v := by
 induction h with
 | v x => exact .v x
 | d y x h => exact .d y x h
 | agg cs vs hl hr ih => exact .agg cs vs hl fun i a x ha hx => ih i a x ha hx (avFreeL_get (by simpa [BD] using hf) i a ha)
 | tup cs vs hl hr ih => exact .tup cs vs hl fun i a x ha hx => ih i a x ha hx (avFreeL_get (by simpa [BD] using hf) i a ha)
 | ptr s g off b h =>
  have : L.contains s = false := by simpa [BD] using hf
  exact .ptr s g off b (by simp only [Gh.drop, this]; exact h)
 | pin row off b o xs hc hr => exact .pin row off b o xs hc hr
 | st sz rows s g b len cap h ht => exact .st sz rows s g b len cap h ht
 | hs s g off len sz b o cap h hcap ho hz =>
  have : L.contains s = false := by simpa [BD] using hf
  exact .hs s g off len sz b o cap (by simp only [Gh.drop, this]; exact h) hcap ho hz
 | mp s g b h =>
  have : L.contains s = false := by simpa [BD] using hf
  exact .mp s g b (by simp only [Gh.drop, this]; exact h)
 | fn f as cs avs cvs hl hl' hr hr' ih ih' =>
  simp only [BD, Bool.and_eq_true] at hf
  exact .fn f as cs avs cvs hl hl' (fun i a x ha hx => ih i a x ha hx (avFreeL_get hf.1 i a ha)) (fun i a x ha hx => ih' i a x ha hx (avFreeL_get hf.2 i a ha))
 | yield s g b h =>
  have : L.contains s = false := by simpa [BD] using hf
  exact .yield s g b (by simp only [Gh.drop, this]; exact h)
 | ifc t a x h ih => exact .ifc t a x (ih (by simpa [BD] using hf))
 | top x => exact .top x
theorem RL.drop {L : List Nat} {as : List AV} {vs : List Value} (h : RL gh w as vs) (hf : AT L as = true) : RL (gh.drop L) w as vs :=
 ⟨h.1, fun i a x ha hx => (h.2 i a x ha hx).drop (avFreeL_get hf i a ha)⟩
def objFree (L : List Nat) : AO → Bool
 | .cells cs _ => AT L cs
 | .map _ _ => true
 | .iter _ _ => true
 | .loop _ _ _ Ap _ _ _ => AT L Ap
 | .dead => true
def H.drop (h : H) (L : List Nat) : H := { h with objs := h.objs.filter fun e => !L.contains e.1 }
def hFree (L : List Nat) (h : H) : Bool := h.objs.all fun e => L.contains e.1 || e.2.2.all (objFree L)
def hNone (L : List Nat) (h : H) : Bool := h.objs.all fun e => !L.contains e.1
theorem lookS_drop (L : List Nat) (s : Nat) (l : List (Nat × Nat × List AO)) : Bl s (l.filter fun e => !L.contains e.1) = if L.contains s then (0, []) else Bl s l := by
 induction l with
 | nil => simp [Bl]
 | cons e r ih =>
  obtain ⟨t, n, ll⟩ := e
  simp only [List.filter_cons]
  by_cases hL : L.contains t = true
  ·simp only [hL, Bool.not_true, Bool.false_eq_true, if_false, ih, Bl]
   by_cases hts : t = s
   ·subst hts; simp only [hL, if_true]
   ·simp [hts]
  ·have hL' : L.contains t = false := by simpa using hL
   simp only [hL', Bool.not_false, if_true, Bl]
   by_cases hts : t = s
   ·subst hts
    rw [if_neg hL, if_pos (by simp), if_pos (by simp)]
   ·have e : (t == s) = false := by simpa using hts
    simp only [e, Bool.false_eq_true, if_false, ih]
theorem H.get_drop (h : H) (L : List Nat) (s g : Nat) : (h.drop L).get s g = if L.contains s then none else h.get s g := by
 simp only [H.get, H.drop, lookS_drop]
 split <;> simp
theorem lookS_mem {s : Nat} : ∀ {l : List (Nat × Nat × List AO)} {o : AO}, o ∈ (Bl s l).2 → ∃ n ll, (s, n, ll) ∈ l ∧ o ∈ ll
 | [], o, h => by simp [Bl] at h
 | (t, n, ll) :: r, o, h => by
  simp only [Bl] at h
  split at h
  ·rename_i e
   have : t = s := by simpa using e
   subst this
   exact ⟨n, ll, by simp, h⟩
  ·obtain ⟨n', ll', h1, h2⟩ := lookS_mem h
   exact ⟨n', ll', by simp [h1], h2⟩
theorem hFree_get {L : List Nat} (hf : hFree L h = true) {s g : Nat} {o : AO} (hL : L.contains s = false) (e : h.get s g = some o) : objFree L o = true := by
 simp only [H.get] at e
 split at e
 ·obtain ⟨n, ll, h1, h2⟩ := lookS_mem (List.mem_of_getElem? e)
  unfold hFree at hf
  rw [List.all_eq_true] at hf
  have := hf _ h1
  simp only [hL, Bool.false_or, List.all_eq_true] at this
  exact this o h2
 ·cases e
theorem ORel.drop {L : List Nat} {b : Nat} {o : AO} (h : ORel gh w b o) (hf : objFree L o = true) : ORel (gh.drop L) w b o := by
 cases o with
 | cells cs fz =>
  obtain ⟨vs, tl, e, h1, h2, h3, h4⟩ := h
  exact ⟨vs, tl, e, h1, h2, h3.drop (by simpa [objFree] using hf), h4⟩
 | map es fz => exact h
 | iter es seen => exact h
 | loop st pend fn Ap ps as bd =>
  obtain ⟨tmps, ds, h1, fn', h2, h3⟩ := h
  exact ⟨tmps, ds, h1, fn', h2, h3.drop (by simpa [objFree] using hf)⟩
 | dead => exact h
theorem Inv.drop {L : List Nat} (hI : Inv C B K gh h w) (hf : hFree L h = true) : Inv C B K (gh.drop L) (h.drop L) w := by
 have hJ : ∀ {s g b}, (gh.drop L).J s g = some b → L.contains s = false ∧ gh.J s g = some b := by
  intro s g b e
  simp only [Gh.drop] at e
  split at e
  ·cases e
  ·rename_i hL; exact ⟨by simpa using hL, e⟩
 have hG : ∀ {s g}, L.contains s = false → (h.drop L).get s g = h.get s g := by
  intro s g hL
  rw [H.get_drop, hL]; rfl
 exact {
  size := hI.size
  dom := fun s g b e => by
   obtain ⟨hL, e'⟩ := hJ e
   obtain ⟨o, h1, h2, h3⟩ := hI.dom s g b e'
   exact ⟨o, by rw [hG hL]; exact h1, h2, h3.drop (hFree_get hf hL h1)⟩
  back := fun s g o e => by
   rw [H.get_drop] at e
   split at e
   ·cases e
   ·rename_i hL
    obtain ⟨b, hb⟩ := hI.back s g o e
    exact ⟨b, by simp only [Gh.drop]; rw [if_neg hL]; exact hb⟩
  inj := fun s g s' g' b e e' d d' => by
   obtain ⟨hL, e1⟩ := hJ e
   obtain ⟨hL', e2⟩ := hJ e'
   rw [hG hL] at d
   rw [hG hL'] at d'
   exact hI.inj s g s' g' b e1 e2 d d'
  tok := fun s t e => by
   obtain ⟨h1, h2, h3⟩ := hI.tok s t e
   exact ⟨h1, fun s' g' e' => h2 s' g' (hJ e').2, h3⟩
  tinj := hI.tinj
  tfresh := hI.tfresh
  kept := fun D hD => by
   obtain ⟨h1, h2, h3⟩ := hI.kept D hD
   exact ⟨h1, h2, fun s g e => h3 s g (hJ e).2⟩
  glob := hI.glob
  fsize := hI.fsize }
theorem hNone_get {L : List Nat} (hn : hNone L h = true) {s g : Nat} {o : AO} (e : h.get s g = some o) : L.contains s = false := by
 simp only [H.get] at e
 split at e
 ·obtain ⟨n, ll, h1, h2⟩ := lookS_mem (List.mem_of_getElem? e)
  unfold hNone at hn
  rw [List.all_eq_true] at hn
  simpa using hn _ h1
 ·cases e
theorem Stp.drop {L : List Nat} {gh' : Gh} {w' : World} (hI : Inv C B K gh h w) (hn : hNone L h = true) (k : Stp B gh w gh' w') : Stp B gh w (gh'.drop L) w' :=
 ⟨k.below, ⟨fun s g b e => by
  obtain ⟨o, h1, _⟩ := hI.dom s g b e
  have := hNone_get hn h1
  simp only [Gh.drop, this]
  exact k.le.J _ _ _ e, k.le.T, k.le.F, k.le.Z⟩, k.same, k.new⟩
end Go.Ev
namespace Go.Ev
open Go Go.RowKit
structure St where
 σ : List AV
 h : H
 deriving Inhabited
def Az (σ : List AV) : Operand → AV
 | .tmp t => (σ[t]?).getD B7
 | .const v => ofV1 v
 | .global g => .d (.v (.pointer (some ⟨g, 0, none⟩)))
 | .func f => .d (.v (.func (.func f) #[] #[]))
def St.put (s : St) (dst : Option Tmp) (a : AV) (h : H) : St :=
 match dst with
 | some d => { σ := s.σ.set d a, h := h }
 | none => { σ := s.σ, h := h }
inductive X where
 | normal
 | exit (id : Nat)
 | goto (l : Nat)
 | ret
 deriving DecidableEq
def X.toExit : X → Exit
 | .normal => .normal
 | .exit id => .exit id
 | .goto l => .goto l
 | .ret => .ret
def X.inBlock (id : Nat) : X → X
 | .exit i => if i = id then .normal else .exit i
 | x => x
def yieldedA (ops : Array Oper) (σ : List AV) (j : Nat) : Option Bool :=
 match ((ops[j]?).bind (·.dst)).bind (σ[·]?) with
 | some (.d (.v (.bool b))) => some b
 | _ => none
def AH (ops : Array Oper) (σ : List AV) (o : Oper) : Bool := Region.wanted o (yieldedA ops σ)
def gknown (ops : Array Oper) (σ : List AV) (o : Oper) : Bool :=
 match o.guard with
 | some (k, _) => match ((ops[k]?).bind (·.dst)).bind (σ[·]?) with
  | some .top => false
  | _ => true
 | none => true
def wantA (ops : Array Oper) (σ : List AV) (o : Oper) : Bool := gknown ops σ o && AH ops σ o
def stepF (C : Ctx) (fn : FuncId) (ops : Array Oper) (i : Nat) (s : St) : Option St :=
 match ops[i]? with
 | none => some s
 | some o =>
  if gknown ops s.σ o then
   if AH ops s.σ o then
    match AA C fn o (Az s.σ) s.h with
    | some (a, h) => some (s.put o.dst a h)
    | none => none
   else some (s.put o.dst B7 s.h)
  else none
def BA (ρ : Operand → AV) : Op → Option (Nat × Nat)
 | .load _ a => match ρ a with | .ptr s g _ => some (s, g) | _ => none
 | .lookup _ m _ _ => match ρ m with | .mp s g => some (s, g) | _ => none
 | .call { args := args, .. } => match args.toList with
  | [x] => match ρ x with | .mp s g => some (s, g) | _ => none
  | _ => none
 | _ => none
def rootOf (ops : Array Oper) : Nat → Operand → Option Nat
 | n + 1, .tmp t => match ops.toList.find? (fun p => p.dst == some t) with
  | some p => match p.op with
   | .fieldAddr _ x _ => rootOf ops n x
   | .alloc _ => some t
   | _ => none
  | none => some t
 | _, _ => none
def B0 (C : Ctx) (fn : FuncId) (ops : Array Oper) (o : Oper) : Option Nat := match o.op with
 | .store _ a _ => match rootOf ops 8 a with
  | some d => if decide (d < 8000) && decide (C.np fn ≤ d) then some d else none
  | none => none
 | _ => none
def storeSites (C : Ctx) (fn : FuncId) (ops : Array Oper) : List Nat := ops.toList.filterMap fun o => (B0 C fn ops o).map (A1 fn)
def readVar (ops : Array Oper) (o : Oper) : Option Nat := match o.op with
 | .load _ a => rootOf ops 8 a
 | _ => none
def ifcVal : AV → Bool
 | .ifc _ a => (toPV a).isSome
 | .d (.v (.iface _ v)) => (toPV (ofV1 v)).isSome
 | _ => false
def byVal (C : Ctx) (fn : FuncId) (ops : Array Oper) (σ : List AV) (o : Oper) : Bool :=
 match o.op with
 | .call { callee := .value (.func _), args := args, .. } => args.toList.all fun x => (toPV (Az σ x)).isSome
 | .call { callee := .builtin .append, args := args, .. } => args.toList.all fun x => (toPV (Az σ x)).isSome
 | .call { callee := .invoke rv _, args := args, .. } => ifcVal (Az σ rv) && args.toList.all fun x => (toPV (Az σ x)).isSome
 | .store _ a _ => match B0 C fn ops o with
  | some d => (match Az σ a with
   | .ptr s _ _ => s == A1 fn d
   | _ => false)
  | none => true
 | op => match BA (Az σ) op with
  | some (s, _) => !(storeSites C fn ops).contains s || (match readVar ops o with | some e => s == A1 fn e | none => false)
  | none => true
def stepD (C : Ctx) (fn : FuncId) (ops : Array Oper) (i : Nat) (s : St) : Option St :=
 if ((ops[i]?).map fun o => !AH ops s.σ o || byVal C fn ops s.σ o).getD true then stepF C fn ops i s else none
def resultA (C : Ctx) (s : St) : ResultVar → Option AV
 | .tmp t => some ((s.σ[t]?).getD B7)
 | .cell a t => loadOp C t ((s.σ[a]?).getD B7) s.h
def Cw (C : Ctx) (fn : Func) (s : St) : Option AV :=
 match Ae (resultA C s) fn.results.toList with
 | some [a] => some a
 | some l => some (if l.isEmpty then .d (.v (.tuple #[])) else .tup l)
 | none => none
def Bz : Op → Nat
 | .move _ | .assign _ | .pick .. | .build .. | .nilCheck _ | .binOp .. | .unOp .. | .convert .. | .slice .. | .fieldAddr .. | .indexAddr .. | .field .. | .index .. | .extract .. | .makeFunc .. => 0
 | .load .. | .lookup .. => 1
 | .call { callee := .builtin .len, .. } => 1
 | .call { callee := .builtin .max, .. } | .call { callee := .builtin .min, .. } => 0
 | .alloc .. | .box .. | .makeMap .. | .makeSlice .. | .buildSlice .. => 2
 | .call { callee := .value (.func _), .. } => 4
 | .call { callee := .invoke _ _, .. } => 4
 | _ => 3
def Bc (C : Ctx) (fn : FuncId) (o : Oper) : Nat :=
 match o.op with
 | .call { callee := .builtin .append, .. } => if C.nt fn (o.dst.getD 8000) then 0 else if C.wr fn (o.dst.getD 8000) then 3 else 5
 | .call { callee := .value (.func g), .. } => if (C.prim g).isSome then 4 else if (C.clone g).isSome then 2 else if C.kp fn (o.dst.getD 8000) then 6 else 3
 | .call { callee := .invoke _ m, .. } => if C.pm m then 4 else 3
 | op => Bz op
def tmpsOf (xs : List Operand) : List Nat := xs.filterMap fun | .tmp t => some t | _ => none
def readsOf (ops : Array Oper) (o : Oper) : List Nat :=
 tmpsOf o.op.operands.toList ++ (match o.guard with | some (g, _) => ((ops[g]?).bind (·.dst)).toList | none => [])
def clsOK (a b : Nat) : Bool := a == 0 || b == 0 || (a != 3 && b != 3 && (a != 5 || b != 5) && (a != 6 || b == 1 || b == 4) && (b != 6 || a == 1 || a == 4))
def AllKept (h h1 : H) : Prop := ∀ s g ob, h.get s g = some ob → h1.get s g = some ob
def BigC (C : Ctx) (fn : FuncId) (o : Oper) (h h1 : H) : Prop := Bc C fn o = 3 ∨ (Bc C fn o = 6 ∧ AllKept h h1)
def okPair (C : Ctx) (fn : FuncId) (ops : Array Oper) (a b : Oper) : Bool :=
 match B0 C fn ops a, B0 C fn ops b with
 | some d, some e => d != e
 | some d, none => Bc C fn b != 3 && Bc C fn b != 6 && readVar ops b != some d && b.dst != some d
 | none, some d => Bc C fn a != 3 && Bc C fn a != 6 && readVar ops a != some d && a.dst != some d
 | none, none => clsOK (Bc C fn a) (Bc C fn b)
def indep (C : Ctx) (fn : FuncId) (ops : Array Oper) (a b : Oper) : Bool :=
 (match a.dst with | some d => !(readsOf ops b).contains d | none => true) && (match b.dst with | some d => !(readsOf ops a).contains d | none => true) &&
 ((a.dst.isNone && b.dst.isNone && (Bc C fn a != 2 || Bc C fn b != 2)) || a.dst.getD 8000 != b.dst.getD 8000) && okPair C fn ops a b
def drawOK (C : Ctx) (fn : FuncId) (ops : Array Oper) : Bool :=
 (ops.toList.zipIdx.all fun p => p.1.after.toList.all fun e => !Region.binds .any e || decide (e.on < p.2)) &&
 (List.range ops.size).all fun i => (List.range i).all fun j => ((Region.before ops).getD i 0).testBit j || (match ops[j]?, ops[i]? with | some a, some b => indep C fn ops a b | _, _ => true)
inductive Task where
 | code (fn : FuncId) (rd : Bool) (c : Code) (s : St)
 | ops (fn : FuncId) (ops : Array Oper) (l : List Nat) (s : St)
 | draws (fn : FuncId) (ops : Array Oper) (l : List Nat) (s : St)
 | call (f : FuncId) (args : List AV) (h : H)
 | yld (s g : Nat) (args : List AV) (h : H)
inductive Res where
 | code (x : X) (s : St)
 | ops (s : St)
 | val (a : AV) (h : H)
def forgets (s s' : St) : Prop := s'.h = s.h ∧ s'.σ.length = s.σ.length ∧ ∀ i : Nat, s'.σ[i]? = s.σ[i]? ∨ s'.σ[i]? = some .top
def maskL (keep : List Nat) : Nat → List AV → List AV
 | _, [] => []
 | i, a :: r => (if keep.contains i then a else .top) :: maskL keep (i + 1) r
def St.mask (keep : List Nat) (s : St) : St := { σ := maskL keep 0 s.σ, h := s.h }
theorem maskL_length (keep : List Nat) : ∀ (i : Nat) (l : List AV), (maskL keep i l).length = l.length
 | _, [] => rfl
 | i, a :: r => by simp [maskL, maskL_length keep (i + 1) r]
theorem maskL_get (keep : List Nat) : ∀ (i : Nat) (l : List AV) (j : Nat), (maskL keep i l)[j]? = l[j]? ∨ (maskL keep i l)[j]? = some .top
 | _, [], j => .inl rfl
 | i, a :: r, 0 => by
  simp only [maskL]
  split
  ·exact .inl rfl
  ·exact .inr rfl
 | i, a :: r, j + 1 => by simpa [maskL] using maskL_get keep (i + 1) r j
theorem mask_forgets (keep : List Nat) (s : St) : forgets s (s.mask keep) := ⟨rfl, maskL_length _ _ _, maskL_get _ _ _⟩
inductive Ev (C : Ctx) (O : Task → Res → Prop) : Task → Res → Prop
 | ora (t : Task) (r : Res) (h : O t r) : Ev C O t r
 | forget (fn : FuncId) (rd : Bool) (c : Code) (s s' s1 : St) (x : X) (hf : forgets s s') (h : Ev C O (.code fn rd c s') (.code x s1)) : Ev C O (.code fn rd c s) (.code x s1)
 | forgetOut (fn : FuncId) (rd : Bool) (c : Code) (s s1 s2 : St) (x : X) (hf : forgets s1 s2) (h : Ev C O (.code fn rd c s) (.code x s1)) : Ev C O (.code fn rd c s) (.code x s2)
 | dropOut (fn : FuncId) (rd : Bool) (c : Code) (s s1 : St) (x : X) (L : List Nat) (h0 : hNone L s.h = true) (h1 : hFree L s1.h = true) (h2 : AT L s1.σ = true) (h : Ev C O (.code fn rd c s) (.code x s1)) :
   Ev C O (.code fn rd c s) (.code x { σ := s1.σ, h := s1.h.drop L })
 | skip (fn : FuncId) (rd : Bool) (s : St) : Ev C O (.code fn rd .skip s) (.code .normal s)
 | label (fn : FuncId) (rd : Bool) (l : Nat) (s : St) : Ev C O (.code fn rd (.label l) s) (.code .normal s)
 | region (fn : FuncId) (rd : Bool) (id : Nat) (ops : Array Oper) (s s' : St) (h : Ev C O (.ops fn ops (List.range ops.size) s) (.ops s')) : Ev C O (.code fn rd (.region id ops false) s) (.code .normal s')
 | draw (fn : FuncId) (rd : Bool) (id : Nat) (ops : Array Oper) (s s' : St) (hc : drawOK C fn ops = true) (h : Ev C O (.draws fn ops (List.range ops.size) s) (.ops s')) : Ev C O (.code fn rd (.region id ops true) s) (.code .normal s')
 | seq (fn : FuncId) (rd : Bool) (a b : Code) (s s1 s2 : St) (x : X) (h1 : Ev C O (.code fn rd a s) (.code .normal s1)) (h2 : Ev C O (.code fn rd b s1) (.code x s2)) : Ev C O (.code fn rd (.seq a b) s) (.code x s2)
 | seqX (fn : FuncId) (rd : Bool) (a b : Code) (s s1 : St) (x : X) (h1 : Ev C O (.code fn rd a s) (.code x s1)) (hx : x ≠ .normal) : Ev C O (.code fn rd (.seq a b) s) (.code x s1)
 | cond (fn : FuncId) (rd : Bool) (c : Operand) (a b : Code) (s s1 : St) (x : X) (t : Bool) (hc : Az s.σ c = .d (.v (.bool t))) (h1 : Ev C O (.code fn rd (if t then a else b) s) (.code x s1)) : Ev C O (.code fn rd (.cond c a b) s) (.code x s1)
 | block (fn : FuncId) (rd : Bool) (id : Nat) (a : Code) (s s1 : St) (x : X) (h1 : Ev C O (.code fn rd a s) (.code x s1)) : Ev C O (.code fn rd (.block id a) s) (.code (x.inBlock id) s1)
 | loop (fn : FuncId) (rd : Bool) (a : Code) (s s1 s2 : St) (x : X) (h1 : Ev C O (.code fn rd a s) (.code .normal s1)) (h2 : Ev C O (.code fn rd (.loop a) s1) (.code x s2)) : Ev C O (.code fn rd (.loop a) s) (.code x s2)
 | loopX (fn : FuncId) (rd : Bool) (a : Code) (s s1 : St) (x : X) (h1 : Ev C O (.code fn rd a s) (.code x s1)) (hx : x ≠ .normal) : Ev C O (.code fn rd (.loop a) s) (.code x s1)
 | exit (fn : FuncId) (rd : Bool) (id : Nat) (s : St) : Ev C O (.code fn rd (.exit id) s) (.code (.exit id) s)
 | goto (fn : FuncId) (rd : Bool) (l : Nat) (s : St) : Ev C O (.code fn rd (.goto l) s) (.code (.goto l) s)
 | ret (fn : FuncId) (rd : Bool) (s : St) : Ev C O (.code fn rd .ret s) (.code .ret s)
 | dnil (fn : FuncId) (ops : Array Oper) (s : St) : Ev C O (.draws fn ops [] s) (.ops s)
 | dstep (fn : FuncId) (ops : Array Oper) (i : Nat) (r : List Nat) (s s1 s2 : St) (h1 : stepD C fn ops i s = some s1) (h2 : Ev C O (.draws fn ops r s1) (.ops s2)) : Ev C O (.draws fn ops (i :: r) s) (.ops s2)
 | dcall (fn : FuncId) (ops : Array Oper) (i : Nat) (r : List Nat) (s s2 : St) (o : Oper) (c : Call) (f : Operand) (g : FuncId) (first cap : List AV) (a : AV) (h1 : H)
   (ho : ops[i]? = some o) (hcls : BigC C fn o s.h h1) (hw : wantA ops s.σ o = true) (hop : o.op = .call c) (hcal : c.callee = .value f) (hg : BO (Az s.σ f) = some (.fn (.func g), first, cap))
   (hb : ((C.P.funcs[g]?).map fun fn => (fn.body.isSome, fn.name == "runtime.NumGoroutine")) = some (true, false))
   (hcall : Ev C O (.call g (first ++ c.args.toList.map (Az s.σ) ++ cap) s.h) (.val a h1)) (h2 : Ev C O (.draws fn ops r (s.put o.dst a h1)) (.ops s2)) : Ev C O (.draws fn ops (i :: r) s) (.ops s2)
 | dinv (fn : FuncId) (ops : Array Oper) (i : Nat) (r : List Nat) (s s2 : St) (o : Oper) (c : Call) (rv : Operand) (m : String) (g : FuncId) (recv a : AV) (h1 : H)
   (ho : ops[i]? = some o) (hcls : BigC C fn o s.h h1) (hw : wantA ops s.σ o = true) (hop : o.op = .call c) (hcal : c.callee = .invoke rv m) (hg : methA C (Az s.σ rv) m = some (g, recv))
   (hb : ((C.P.funcs[g]?).map fun fn => (fn.body.isSome, fn.name == "runtime.NumGoroutine")) = some (true, false))
   (hcall : Ev C O (.call g ([recv] ++ c.args.toList.map (Az s.σ)) s.h) (.val a h1)) (h2 : Ev C O (.draws fn ops r (s.put o.dst a h1)) (.ops s2)) : Ev C O (.draws fn ops (i :: r) s) (.ops s2)
 | nil (fn : FuncId) (ops : Array Oper) (s : St) : Ev C O (.ops fn ops [] s) (.ops s)
 | invOp (fn : FuncId) (ops : Array Oper) (i : Nat) (r : List Nat) (s s2 : St) (o : Oper) (c : Call) (rv : Operand) (m : String) (g : FuncId) (recv a : AV) (h1 : H)
   (ho : ops[i]? = some o) (hw : wantA ops s.σ o = true) (hop : o.op = .call c) (hcal : c.callee = .invoke rv m) (hg : methA C (Az s.σ rv) m = some (g, recv))
   (hb : ((C.P.funcs[g]?).map fun fn => (fn.body.isSome, fn.name == "runtime.NumGoroutine")) = some (true, false))
   (hcall : Ev C O (.call g ([recv] ++ c.args.toList.map (Az s.σ)) s.h) (.val a h1)) (h2 : Ev C O (.ops fn ops r (s.put o.dst a h1)) (.ops s2)) : Ev C O (.ops fn ops (i :: r) s) (.ops s2)
 | step (fn : FuncId) (ops : Array Oper) (i : Nat) (r : List Nat) (s s1 s2 : St) (h1 : stepF C fn ops i s = some s1) (h2 : Ev C O (.ops fn ops r s1) (.ops s2)) : Ev C O (.ops fn ops (i :: r) s) (.ops s2)
 | callOp (fn : FuncId) (ops : Array Oper) (i : Nat) (r : List Nat) (s s2 : St) (o : Oper) (c : Call) (f : Operand) (g : FuncId) (first cap : List AV) (a : AV) (h1 : H)
   (ho : ops[i]? = some o) (hw : wantA ops s.σ o = true) (hop : o.op = .call c) (hcal : c.callee = .value f) (hg : BO (Az s.σ f) = some (.fn (.func g), first, cap))
   (hb : ((C.P.funcs[g]?).map fun fn => (fn.body.isSome, fn.name == "runtime.NumGoroutine")) = some (true, false))
   (hcall : Ev C O (.call g (first ++ c.args.toList.map (Az s.σ) ++ cap) s.h) (.val a h1)) (h2 : Ev C O (.ops fn ops r (s.put o.dst a h1)) (.ops s2)) : Ev C O (.ops fn ops (i :: r) s) (.ops s2)
 | call (f : FuncId) (args : List AV) (h : H) (fd : Func) (c : Code) (x : X) (s : St) (a : AV) (hf : C.P.funcs[f]? = some fd) (hb : fd.body = some c)
   (h1 : Ev C O (.code f false c { σ := args ++ List.replicate (fd.ntmps - args.length) B7, h := h }) (.code x s)) (hx : x = .normal ∨ x = .ret) (hr : Cw C fd s = some a) : Ev C O (.call f args h) (.val a s.h)
 | callD (f : FuncId) (args : List AV) (h : H) (fd : Func) (c0 c2 : Code) (id : Nat) (ops : Array Oper) (x : X) (s0 s1 s2 : St) (a : AV) (o : Oper) (cal : Call) (fop : Operand) (g : FuncId) (first cap : List AV)
   (hf : C.P.funcs[f]? = some fd) (hb : fd.body = some (.seq c0 (.seq (.region id ops false) c2)))
   (h0 : Ev C O (.code f false c0 { σ := args ++ List.replicate (fd.ntmps - args.length) B7, h := h }) (.code .normal s0))
   (h1 : Ev C O (.ops f ops (List.range (ops.size - 1)) s0) (.ops s1)) (hz : 0 < ops.size) (ho : ops[ops.size - 1]? = some o) (hgd : o.guard = none) (hop : o.op = .defer cal) (hcal : cal.callee = .value fop)
   (hg : BO (Az s1.σ fop) = some (.fn (.func g), first, cap)) (hq : C.quiet g = true)
   (hbg : ((C.P.funcs[g]?).map fun fn => (fn.body.isSome, fn.name == "runtime.NumGoroutine")) = some (true, false))
   (h2 : Ev C O (.code f false c2 (s1.put o.dst B7 s1.h)) (.code x s2)) (hx : x = .normal ∨ x = .ret) (hr : Cw C fd s2 = some a) : Ev C O (.call f args h) (.val a s2.h)
end Go.Ev
namespace Go.Ev
open Go Go.RowKit
variable {C : Ctx} {B : Nat} {K : List Nat} {gh : Gh} {h : H} {w : World}
def Gh.addF (gh : Gh) (s g b z : Nat) (F' : Nat → Nat → Prop) : Gh := { gh.addJ s g b z with F := F' }
theorem Inv.attach {w' : World} {b0 z0 : Nat} {o : AO} {F' : Nat → Nat → Prop} (s : Nat) (hI : Inv C B K gh h w) (hw : Below w.heap.size w w') (hb0 : w.heap.size ≤ b0) (hb1 : b0 < w'.heap.size) (hF1 : ∀ b o, gh.F b o → F' b o) (hF2 : ∀ b o, F' b o → b < w.heap.size → gh.F b o) (hF3 : ∀ b o, F' b o → b < w'.heap.size)
  (ho : Stp B gh w (gh.addF s (h.count s) b0 z0 F') w' → ORel (gh.addF s (h.count s) b0 z0 F') w' b0 o) :
  Stp B gh w (gh.addF s (h.count s) b0 z0 F') w' ∧ Inv C B K (gh.addF s (h.count s) b0 z0 F') (h.push s o) w' ∧ (gh.addF s (h.count s) b0 z0 F').J s (h.count s) = some b0 := by
 have hle : GLe gh (gh.addF s (h.count s) b0 z0 F') := by
  refine ⟨fun s' g' b e => ?_, fun _ _ _ e => e, hF1, fun s' g' b e => ?_⟩
  ·simp only [Gh.addF, Gh.addJ]
   rw [if_neg]
   ·exact e
   ·rintro ⟨rfl, rfl⟩; rw [hI.J_count] at e; cases e
  ·have := hI.J_lt e
   simp only [Gh.addF, Gh.addJ]
   rw [if_neg (by omega)]
 have k : Stp B gh w (gh.addF s (h.count s) b0 z0 F') w' := ⟨hw.mono hI.size, hle, fun b o hF => Bj.of_block (hw.block _ (hI.fsize b o hF)), fun b o e hb => hF2 b o e (by have := hI.size; omega)⟩
 have hnew : (gh.addF s (h.count s) b0 z0 F').J s (h.count s) = some b0 := by simp [Gh.addF, Gh.addJ]
 refine ⟨k, ?_, hnew⟩
 have hcase : ∀ s' g' b, (gh.addF s (h.count s) b0 z0 F').J s' g' = some b → (s' = s ∧ g' = h.count s ∧ b = b0) ∨ (gh.J s' g' = some b ∧ ¬ (s' = s ∧ g' = h.count s)) := by
  intro s' g' b e
  simp only [Gh.addF, Gh.addJ] at e
  split at e
  ·rename_i hc; exact .inl ⟨hc.1, hc.2, by simpa using e.symm⟩
  ·rename_i hc; exact .inr ⟨e, hc⟩
 exact {
  size := Nat.le_trans hI.size k.below.size
  dom := fun s' g' b e => by
   rcases hcase s' g' b e with ⟨rfl, rfl, rfl⟩ | ⟨e', hn⟩
   ·exact ⟨o, H.get_push_same _ _ _, Nat.le_trans hI.size hb0, ho k⟩
   ·obtain ⟨o', h1, h2, h3⟩ := hI.dom s' g' b e'
    exact ⟨o', H.get_push_old h1, h2, h3.mono k (hw.block _ (hI.J_lt e')) (fun x hx => hF2 _ x hx (hI.J_lt e')) (k.le.Z _ _ _ e')⟩
  back := fun s' g' o' e => by
   by_cases hc : s' = s ∧ g' = h.count s
   ·obtain ⟨rfl, rfl⟩ := hc; exact ⟨_, hnew⟩
   ·rw [H.get_push_other _ _ _ _ _ hc] at e
    obtain ⟨b, hb⟩ := hI.back s' g' o' e
    exact ⟨b, hle.J _ _ _ hb⟩
  inj := fun s1 g1 s2 g2 b e1 e2 d1 d2 => by
   rcases hcase _ _ _ e1 with ⟨rfl, rfl, rfl⟩ | ⟨e1', c1⟩ <;> rcases hcase _ _ _ e2 with ⟨rfl, rfl, h3⟩ | ⟨e2', c2⟩
   ·exact ⟨rfl, rfl⟩
   ·have := hI.J_lt e2'; omega
   ·subst h3; have := hI.J_lt e1'; omega
   ·rw [H.get_push_other _ _ _ _ _ c1] at d1
    rw [H.get_push_other _ _ _ _ _ c2] at d2
    exact hI.inj _ _ _ _ _ e1' e2' d1 d2
  tok := fun s' t e => by
   obtain ⟨h1, h2, h3⟩ := hI.tok s' t e
   refine ⟨h1.mono (hw.block _ (hI.T_lt e)) (fun x hx => hF2 _ x hx (hI.T_lt e)), fun s1 g1 e1 => ?_, h3⟩
   rcases hcase _ _ _ e1 with ⟨_, _, h4⟩ | ⟨e', _⟩
   ·have := hI.T_lt e; omega
   ·exact h2 _ _ e'
  tinj := fun s1 s2 t t' e e' => hI.tinj s1 s2 t t' e e'
  tfresh := fun s' g' hg => hI.tfresh s' g' hg
  kept := fun D hD => by
   obtain ⟨h1, h2, h3⟩ := hI.kept D hD
   refine ⟨h1, (hw.block _ (hI.K_lt hD)).trans h2, fun s1 g1 e1 => ?_⟩
   rcases hcase _ _ _ e1 with ⟨_, _, h4⟩ | ⟨e', _⟩
   ·have := hI.K_lt hD; omega
   ·exact h3 _ _ e'
  glob := fun g row e j y ey => by
   obtain ⟨x, h1, h2, h3⟩ := hI.glob g row e j y ey
   exact ⟨x, (k.same _ _ h2).1.trans h1, hF1 _ _ h2, h3.mono k.le.F k.same⟩
  fsize := hF3 }
end Go.Ev
namespace Go.Ev
open Go Go.RowKit
variable {C : Ctx} {B : Nat} {K : List Nat} {gh : Gh} {h : H} {w : World}
def fz (r : Option Nat) : Fence := { fn := fun _ => True, depth := none, alive := false, round := r }
def Marks (Ds : List Nat) : List Deferred := Ds.map fun D => { target := .collected D, args := #[] }
theorem fz_depth (r : Option Nat) (n : Nat) : (fz r).depth.isSome = true → 1 ≤ n := fun h => by simp [fz] at h
theorem callsIn_fz {r : Option Nat} {n m : Nat} {P : Program} {f : FuncId} {args : Array Value} {w : World} {R : Ending → World → Prop} (h : Calls P f args w R) : CallsIn (fz r) n P f args w R :=
 (callsIn_wide (n := n)).2 h
theorem callsIn_r {r r' : Option Nat} {n : Nat} {P : Program} {f : FuncId} {args : Array Value} {w : World} {R : Ending → World → Prop} (h : CallsIn (fz r) n P f args w R) : CallsIn (fz r') n P f args w R := h
def GlobF (C : Ctx) (F : Nat → Nat → Prop) (w : World) : Prop :=
 ∀ (g : Nat) (row : List DV), C.glob g = some row → ∀ (j : Nat) (y : DV), row[j]? = some y → ∃ x, w.cell? (Bn g j) = some x ∧ F g j ∧ RD F w y x
inductive RR (F : Nat → Nat → Prop) (w : World) : List PV → Value → Prop
 | one (p : PV) (v : Value) (h : RP F w p v) : RR F w [p] v
 | many (ps : List PV) (vs : List Value) (hn : ps.length ≠ 1) (h : RPs F w ps vs) : RR F w ps (.tuple vs.toArray)
def AJ (C : Ctx) (g : FuncId) (spec : List PV → Option (List PV)) : Prop :=
 ∀ (ps rs : List PV), spec ps = some rs → ∀ (F : Nat → Nat → Prop) (w : World) (vs : List Value), (∀ b o, F b o → b < w.heap.size) → GlobF C F w → RPs F w ps vs →
  Calls C.P g vs.toArray w fun e w' => ∃ v F', e = .returned v ∧ Below w.heap.size w w' ∧ (∀ b o, F b o → F' b o) ∧ (∀ b o, F' b o → b < w.heap.size → F b o) ∧ (∀ b o, F' b o → b < w'.heap.size) ∧ RR F' w' rs v
def CloneOK (C : Ctx) (g : FuncId) (sz : Nat) : Prop := ∀ (F : Nat → Nat → Prop) (w : World) (v : Value), (∀ b o, F b o → b < w.heap.size) → GlobF C F w →
 (v = .slice none 0 0 → Calls C.P g #[v] w fun e w' => e = .returned v ∧ Below w.heap.size w w') ∧
 ∀ (full : Bool) (rows : A8), rows.length < 2 ^ 30 → RD F w (.sl sz full rows) v →
  (rows = [] → Calls C.P g #[v] w fun e w' => Below w.heap.size w w' ∧ ∃ b o, e = .returned (.slice (some (Bn b o)) 0 0)) ∧
  (rows ≠ [] → Calls C.P g #[v] w fun e w' => ∃ (F' : Nat → Nat → Prop) (b cap : Nat) (vs tail : List Value) (elem : TypeId), e = .returned (.slice (some (Bn b 0)) rows.length cap) ∧ Below w.heap.size w w' ∧
   (∀ b o, F b o → F' b o) ∧ (∀ b o, F' b o → b < w.heap.size → F b o) ∧ (∀ b o, F' b o → b < w'.heap.size) ∧ w.heap.size ≤ b ∧ b < w'.heap.size ∧ (∀ o, ¬ F' b o) ∧
   w'.heap[b]? = some (.cells (vs ++ tail).toArray elem (0, 0)) ∧ rows.length ≤ cap ∧ cap * sz ≤ (vs ++ tail).length ∧ vs.length = rows.flatten.length ∧
   ∀ (k : Nat) (y : DV) (x : Value), rows.flatten[k]? = some y → vs[k]? = some x → y = .v x ∨ RD F' w' y x)
def Quiet (P : Program) (g : FuncId) : Prop := ∀ (r : Option Nat) (n : Nat) (args : Array Value) (w : World), CallsDIn (fz r) n P g args .returning w (fun e u' w' => (∃ v, e = .returned v) ∧ u' = .returning ∧ Below w.heap.size w w')
def Aw (C : Ctx) : Prop := (∀ g spec, C.prim g = some spec → AJ C g spec ∧ ((C.P.funcs[g]?).map fun fn => (fn.body.isSome, fn.name == "runtime.NumGoroutine")) = some (true, false)) ∧ (∀ g, C.quiet g = true → Quiet C.P g) ∧ ∀ g sz, C.clone g = some sz → CloneOK C g sz ∧ ((C.P.funcs[g]?).map fun fn => (fn.body.isSome, fn.name == "runtime.NumGoroutine")) = some (true, false)
theorem RP.toRA {F : Nat → Nat → Prop} {gh : Gh} (hF : ∀ b o, F b o → gh.F b o) {p : PV} {v : Value} (hr : RP F w p v) : RA gh w (ofPV p) v := by
 cases hr with
 | one x v h => exact .d _ _ (h.mono hF (fun _ _ _ => Bj.of_block rfl))
 | agg cs vs hl hr =>
  refine .agg _ _ (by simp [hl]) (fun i a x ha hx => ?_)
  simp only [List.getElem?_map, Option.map_eq_some_iff] at ha
  obtain ⟨y, hy, rfl⟩ := ha
  exact .d _ _ ((hr i y x hy hx).mono hF (fun _ _ _ => Bj.of_block rfl))
 | ifc t cs vs hl hr =>
  refine .ifc _ _ _ (.agg _ _ (by simp [hl]) (fun i a x ha hx => ?_))
  simp only [List.getElem?_map, Option.map_eq_some_iff] at ha
  obtain ⟨y, hy, rfl⟩ := ha
  exact .d _ _ ((hr i y x hy hx).mono hF (fun _ _ _ => Bj.of_block rfl))
theorem RR.toRA {F : Nat → Nat → Prop} {gh : Gh} (hF : ∀ b o, F b o → gh.F b o) {ps : List PV} {v : Value} (hr : RR F w ps v) : RA gh w (ofPVs ps) v := by
 cases hr with
 | one p v h => exact h.toRA hF
 | many ps vs hn h =>
  have e : ofPVs ps = .tup (ps.map ofPV) := by
   match ps, hn with
   | [], _ => rfl
   | [p], hn => exact absurd rfl hn
   | p :: q :: r, _ => rfl
  rw [e]
  refine .tup _ _ (by simp [h.1]) (fun i a x ha hx => ?_)
  simp only [List.getElem?_map, Option.map_eq_some_iff] at ha
  obtain ⟨p, hp, rfl⟩ := ha
  exact (h.2 i p x hp hx).toRA hF
theorem RP.scalar {F G : Nat → Nat → Prop} {p : PV} {v : Value} (hs : scalarP p = true) (h : RP F w p v) : RP G w p v := by
 cases h with
 | one y u h =>
  cases h with
  | v _ h1 => exact .one _ _ (.v _ h1)
  | sl => simp [scalarP] at hs
  | mp => simp [scalarP] at hs
  | tab => simp [scalarP] at hs
  | mn0 => simp [scalarP] at hs
  | mne => simp [scalarP] at hs
  | mn => simp [scalarP] at hs
 | agg => simp [scalarP] at hs
 | ifc => simp [scalarP] at hs
theorem RR.scalar {F G : Nat → Nat → Prop} {rs : List PV} {v : Value} (hs : scalarR rs = true) (h : RR F w rs v) : RR G w rs v := by
 unfold scalarR at hs
 rw [List.all_eq_true] at hs
 cases h with
 | one p v h => exact .one _ _ (h.scalar (hs p (by simp)))
 | many ps vs hn h => exact .many _ _ hn ⟨h.1, fun i p v hp hv => (h.2 i p v hp hv).scalar (hs p (List.mem_of_getElem? hp))⟩
theorem Cr {σ : List AV} {a : Act} (hl : RL gh w σ a.tmps.toList) (x : Operand) : RA gh w (Az σ x) (a.eval x) := by
 cases x with
 | tmp t =>
  simp only [Az, Act.eval]
  cases e : σ[t]? with
  | none =>
   have : a.tmps.size ≤ t := by
    have h1 := List.getElem?_eq_none_iff.1 e
    have h2 := hl.1
    simp at h2; omega
   have hge : ¬ t < a.tmps.size := Nat.not_lt.2 this
   have e2 : a.tmps.getD t undef = undef := by simp [Array.getD, hge]
   rw [e2]
   exact .v _
  | some y =>
   obtain ⟨v, hv, hr⟩ := hl.get e
   have : t < a.tmps.size := by
    have h1 := (List.getElem?_eq_some_iff.1 hv).1
    simpa using h1
   simp at hv
   simp only [Option.getD_some, Array.getD, this, dif_pos]
   have e2 : a.tmps[t] = v := by
    rw [Array.getElem?_eq_getElem this] at hv; simpa using hv
   show RA gh w y a.tmps[t]
   rw [e2]; exact hr
 | const v => exact .of_v1 v
 | global g => exact .v _
 | func f => exact .v _
theorem put_rel {s : St} {a : Act} {dst : Option Tmp} {x : AV} {v : Value} {h' : H} (hl : RL gh w s.σ a.tmps.toList) (hx : RA gh w x v) : RL gh w (s.put dst x h').σ (a.put dst v).tmps.toList := by
 cases dst with
 | none => exact hl
 | some d =>
  simp only [St.put, Act.put, Array.toList_setIfInBounds]
  exact hl.set hx d
theorem put_h {s : St} {dst : Option Tmp} {x : AV} {h' : H} : (s.put dst x h').h = h' := by cases dst <;> rfl
theorem yielded_rel {ops : Array Oper} {σ : List AV} {tmps : Array Value} (hl : RL gh w σ tmps.toList) (j : Nat) (hk : ((ops[j]?).bind (·.dst)).bind (σ[·]?) ≠ some .top) : yieldedA ops σ j = yielded ops tmps j := by
 unfold yieldedA yielded
 cases e : (ops[j]?).bind (·.dst) with
 | none => rfl
 | some d =>
  simp only [Option.bind_some]
  cases e2 : σ[d]? with
  | none =>
   have : tmps[d]? = none := by
    have h1 := List.getElem?_eq_none_iff.1 e2
    have h2 := hl.1
    simp at h2
    exact Array.getElem?_eq_none (by omega)
   rw [this]
  | some y =>
   obtain ⟨v, hv, hr⟩ := hl.get e2
   simp at hv
   rw [hv]
   simp only [e, Option.bind_some, e2] at hk
   cases hr with
   | top => exact absurd rfl hk
   | v => cases v <;> rfl
   | d y _ h => cases h with
    | v => cases v <;> rfl
    | sl => rfl
    | mp => rfl
    | tab => rfl
    | mn0 => rfl
    | mne => rfl
    | mn _ _ _ h => cases h; rfl
   | _ => rfl
theorem wanted_rel {ops : Array Oper} {σ : List AV} {tmps : Array Value} (hl : RL gh w σ tmps.toList) (o : Oper) (hk : gknown ops σ o = true) : AH ops σ o = Region.wanted o (yielded ops tmps) := by
 unfold AH Region.wanted
 unfold gknown at hk
 cases hg : o.guard with
 | none => rfl
 | some gw =>
  obtain ⟨k, b⟩ := gw
  rw [hg] at hk
  simp only at hk ⊢
  rw [yielded_rel hl k (fun e => by rw [e] at hk; cases hk)]
theorem want_rel {ops : Array Oper} {σ : List AV} {tmps : Array Value} (hl : RL gh w σ tmps.toList) (o : Oper) (hw : wantA ops σ o = true) : Region.wanted o (yielded ops tmps) = true := by
 unfold wantA at hw
 simp only [Bool.and_eq_true] at hw
 rw [← wanted_rel hl o hw.1]; exact hw.2
theorem wpIn_of_out {r : Option Nat} {n : Nat} {o : Oper} {a : Act} {x : AV} {h' : H} {next : Act → World → Prop} {Q : Exit → Act → World → Prop}
  (hd : ∀ c, o.op ≠ .defer c) (ho : Out C B K gh h' w x ((execOp a.eval o).run C.P w))
  (hn : ∀ v w' gh', Stp B gh w gh' w' → Inv C B K gh' h' w' → RA gh' w' x v → next (a.put o.dst v) w') : o.wpIn (fz r) n C.P a w next Q := by
 refine ⟨fun _ _ => trivial, ?_⟩
 rw [Oper.semAt_eq _ _ _ hd]
 obtain ⟨v, w', gh', h1, k, hI, hr⟩ := ho
 rcases h1 with h1 | ⟨h1, rfl⟩
 ·rw [h1, Oper.uponIn_value]; exact hn v w' gh' k hI hr
 ·rw [h1, Oper.uponIn_skip]; exact hn _ w' gh' k hI hr
theorem callFunc_run {g : FuncId} {args : Array Value} (hb : ((C.P.funcs[g]?).map fun fn => (fn.body.isSome, fn.name == "runtime.NumGoroutine")) = some (true, false)) :
  (callFunc g args).run C.P w = .ok (.enter g args) w := by
 cases e : C.P.funcs[g]? with
 | none => simp [e] at hb
 | some fn =>
  simp only [e, Option.map_some, Option.some.injEq, Prod.mk.injEq] at hb
  obtain ⟨h1, h2⟩ := hb
  have h3 : fn.body.isNone = false := by cases hb : fn.body <;> simp_all
  have h4 : fn.name ≠ "runtime.NumGoroutine" := by simpa using h2
  have h5 : fn.body ≠ none := by intro h; rw [h] at h1; cases h1
  simp [callFunc, e, h4, h5]
theorem callee_rel {a : AV} {v : Value} {f : AFn} {first cap : List AV} (ha : RA gh w a v) (e : BO a = some (f, first, cap)) :
  ∃ ff fs cs, v = .func ff fs cs ∧ RL gh w first fs.toList ∧ RL gh w cap cs.toList ∧ (match f with | .fn g => ff = g | .yield s g => ∃ b, ff = .yield b ∧ gh.J s g = some b) := by
 have ofV1s : ∀ (xs : Array Value), RL gh w (xs.toList.map ofV1) xs.toList := fun xs => ⟨by simp, fun i a x ha hx => by simp only [List.getElem?_map, hx, Option.map_some, Option.some.injEq] at ha; subst ha; exact .of_v1 x⟩
 unfold BO at e
 split at e
 ·rename_i ff fs cs
  simp at e; obtain ⟨rfl, rfl, rfl⟩ := e
  exact ⟨ff, fs, cs, ha.eq_v, ofV1s _, ofV1s _, rfl⟩
 ·simp at e; obtain ⟨rfl, rfl, rfl⟩ := e
  cases ha with
  | fn g as cs avs cvs hl hl' hr hr' => exact ⟨g, _, _, rfl, ⟨by simpa using hl, by simpa using hr⟩, ⟨by simpa using hl', by simpa using hr'⟩, rfl⟩
  | yield s g b hJ => exact ⟨_, _, _, rfl, ⟨rfl, fun i a x h => by simp at h⟩, ⟨rfl, fun i a x h => by simp at h⟩, b, rfl, hJ⟩
 ·cases e
theorem RL.app {as bs : List AV} {vs us : List Value} (h1 : RL gh w as vs) (h2 : RL gh w bs us) : RL gh w (as ++ bs) (vs ++ us) := by
 refine ⟨by simp [h1.1, h2.1], fun i a x ha hx => ?_⟩
 rw [List.getElem?_append] at ha hx
 rw [← h1.1] at hx
 split at ha
 ·rename_i hi; rw [if_pos hi] at hx; exact h1.2 i a x ha hx
 ·rename_i hi; rw [if_neg hi] at hx; exact h2.2 _ a x ha hx
theorem RL.map {σ : List AV} {a : Act} (hl : RL gh w σ a.tmps.toList) (xs : List Operand) : RL gh w (xs.map (Az σ)) (xs.map a.eval) :=
 ⟨by simp, fun i y v hy hv => by
  simp only [List.getElem?_map, Option.map_eq_some_iff] at hy hv
  obtain ⟨x, hx, rfl⟩ := hy
  obtain ⟨z, hz, rfl⟩ := hv
  rw [hx] at hz; simp at hz; subst hz
  exact Cr hl _⟩
theorem call_upon {r : Option Nat} {n : Nat} {o : Oper} {c : Call} {f : Operand} {g : FuncId} {fs cs : Array Value} {a : Act} {next : Act → World → Prop} {Q : Exit → Act → World → Prop} {R : Value → World → Prop}
  (hop : o.op = .call c) (hcal : c.callee = .value f) (hv : a.eval f = .func (.func g) fs cs)
  (hb : ((C.P.funcs[g]?).map fun fn => (fn.body.isSome, fn.name == "runtime.NumGoroutine")) = some (true, false))
  (hcall : CallsIn (fz r) (n - 1) C.P g (fs.toList ++ c.args.toList.map a.eval ++ cs.toList).toArray w (fun e w' => ∃ v, e = .returned v ∧ R v w'))
  (hn : ∀ v w', R v w' → next (a.put o.dst v) w') : o.wpIn (fz r) n C.P a w next Q := by
 refine ⟨fun _ _ => trivial, ?_⟩
 rw [Oper.semAt_eq _ _ _ (fun c' h => by rw [hop] at h; cases h)]
 have hrun : (execOp a.eval o).run C.P w = .ok (.enter g (fs.toList ++ c.args.toList.map a.eval ++ cs.toList).toArray) w := by
  have e : (fs ++ c.args.map a.eval ++ cs) = (fs.toList ++ c.args.toList.map a.eval ++ cs.toList).toArray := by
   rw [← Array.toList_inj]; simp
  simp only [execOp, hop, resolve, hcal, hv, Deferred.ofValue, Sem.run_bind, Sem.run_pure, Result.andThen_ok, invoke]
  rw [e]
  exact callFunc_run hb
 rw [hrun, Oper.uponIn_enter]
 refine ⟨fz_depth _ _, hcall.mono ?_⟩
 rintro e w' ⟨v, rfl, hR⟩
 exact hn v w' hR
theorem inv_run {o : Oper} {c : Call} {rv : Operand} {m : String} {g : FuncId} {recv av : AV} {a : Act} (hop : o.op = .call c) (hcal : c.callee = .invoke rv m) (ha : RA gh w av (a.eval rv)) (hg : methA C av m = some (g, recv))
  (hb : ((C.P.funcs[g]?).map fun fn => (fn.body.isSome, fn.name == "runtime.NumGoroutine")) = some (true, false)) :
  ∃ x, RA gh w recv x ∧ (execOp a.eval o).run C.P w = .ok (.enter g ([x] ++ c.args.toList.map a.eval).toArray) w := by
 have row : ∀ (t : TypeId) (v : Value) (y : AV), a.eval rv = .iface t v → (match C.P.info? t, C.P.underlying t with
   | some i, some u => match i.methods.find? (·.name == m) with
    | some mm => match mm.path.toList, mm.func, u with
     | [], some (f, true), .pointer _ => some (f, y)
     | [], some (f, false), .struct _ => some (f, y)
     | _, _, _ => none
    | none => none
   | _, _ => none) = some (g, recv) → y = recv ∧ (execOp a.eval o).run C.P w = .ok (.enter g ([v] ++ c.args.toList.map a.eval).toArray) w := by
  intro t v y hv e
  split at e
  ·rename_i i u hi hu
   split at e
   ·rename_i mm hm
    obtain ⟨n, hn⟩ : ∃ n, C.P.types.size + Made.depth = n + 1 := ⟨C.P.types.size + 99, rfl⟩
    have e1 : (#[a.eval rv] ++ c.args.map a.eval).extract 1 (#[a.eval rv] ++ c.args.map a.eval).size = c.args.map a.eval := by
     rw [← Array.toList_inj]; simp; exact List.take_of_length_le (by simp)
    have e2 : #[v] ++ c.args.map a.eval = ([v] ++ c.args.toList.map a.eval).toArray := by
     rw [← Array.toList_inj]; simp
    have fin : (method (C.P.types.size + Made.depth) t v m).run C.P w = .ok (g, v) w → (execOp a.eval o).run C.P w = .ok (.enter g ([v] ++ c.args.toList.map a.eval).toArray) w := by
     intro hm
     have e0 : (#[a.eval rv] ++ c.args.map a.eval)[0]? = some (.iface t v) := by rw [hv, ← Array.getElem?_toList, Array.toList_append]; rfl
     have e3 : (callMethod (.iface t v) m (c.args.map a.eval)).run C.P w = .ok (.enter g ([v] ++ c.args.toList.map a.eval).toArray) w := by
      simp only [callMethod, Sem.run_bind, run_program, Result.andThen_ok, hm]
      rw [e2]
      exact callFunc_run hb
     simp only [execOp, hop, resolve, hcal, Sem.run_bind, Sem.run_pure, Result.andThen_ok, invoke, e0, e1]
     exact e3
    split at e
    ·rename_i f el hp hf
     simp only [Option.some.injEq, Prod.mk.injEq] at e
     obtain ⟨rfl, rfl⟩ := e
     refine ⟨rfl, fin ?_⟩
     rw [hn]
     simp [method, typeInfo, hi, hm, hp, hf, follow, receiverAt, AB hu, Place.get]
    ·rename_i f el hp hf
     simp only [Option.some.injEq, Prod.mk.injEq] at e
     obtain ⟨rfl, rfl⟩ := e
     refine ⟨rfl, fin ?_⟩
     rw [hn]
     simp [method, typeInfo, hi, hm, hp, hf, follow, receiverAt, AB hu, Place.get]
    ·cases e
   ·cases e
  ·cases e
 unfold methA at hg
 dsimp only at hg
 split at hg
 ·rename_i t x
  generalize hv : a.eval rv = vv at ha
  cases ha with
  | ifc _ _ v h =>
   obtain ⟨rfl, h2⟩ := row t v x hv hg
   exact ⟨v, h, h2⟩
 ·rename_i t v
  obtain ⟨rfl, h2⟩ := row t v (ofV1 v) ha.eq_v hg
  exact ⟨v, .of_v1 v, h2⟩
 ·cases hg
theorem op_sound {r : Option Nat} {n : Nat} {fn : FuncId} {o : Oper} {σ : List AV} {a : Act} {x0 : AV} {h' : H} {next : Act → World → Prop} {Q : Exit → Act → World → Prop}
  (hP : Aw C) (hI : Inv C B K gh h w) (hl : RL gh w σ a.tmps.toList) (e : AA C fn o (Az σ) h = some (x0, h'))
  (hn : ∀ v w' gh', Stp B gh w gh' w' → Inv C B K gh' h' w' → RA gh' w' x0 v → next (a.put o.dst v) w') : o.wpIn (fz r) n C.P a w next Q := by
 have hρ := fun x => Cr hl x
 have hdef : ∀ c, o.op ≠ .defer c := fun c hc => by simp [AA, hc] at e
 by_cases hcase : ∃ c f, o.op = .call c ∧ c.callee = .value f
 ·obtain ⟨c, f, hop, hcal⟩ := hcase
  simp only [AA, hop, hcal] at e
  split at e
  ·rename_i g first cap hg
   split at e
   ·rename_i spec hspec
    split at e
    ·rename_i ps h1 hps
     split at e
     ·rename_i rs hrs
      simp at e; obtain ⟨rfl, rfl⟩ := e
      obtain ⟨hsat, hb⟩ := hP.1 g spec hspec
      obtain ⟨ff, fs, cs, hv, hfs, hcs, hff⟩ := callee_rel (hρ f) hg
      simp only at hff; subst hff
      have hargs := (hfs.app (hl.map c.args.toList)).app hcs
      obtain ⟨g1, k1, i1, r1⟩ := freezeAll_out hI hargs hps
      have hcalls := hsat ps rs hrs g1.F w _ i1.fsize i1.glob r1
      refine call_upon hop hcal hv hb (callsIn_fz (m := 0) (hcalls.mono ?_)) (R := fun v w' => ∃ gh', Stp B gh w gh' w' ∧ Inv C B K gh' (if scalarR rs then h else h1) w' ∧ RA gh' w' (ofPVs rs) v) ?_
      ·rintro e w' ⟨v, F', rfl, hB, hF1, hF2, hF3, hr⟩
       by_cases hsc : scalarR rs = true
       ·have k : Stp B gh w gh w' := ⟨hB.mono hI.size, .refl _, fun b o hF => Bj.of_block (hB.block b (hI.fsize b o hF)), fun b o e hb => e⟩
        rw [if_pos hsc]
        exact ⟨v, rfl, gh, k, hI.keep k rfl rfl (fun b hb _ => ⟨hB.block b hb, fun x hx => hx⟩) (fun b o hF => by have := hI.fsize b o hF; have := hB.size; omega), (hr.scalar (G := gh.F) hsc).toRA (fun _ _ h => h)⟩
       rw [if_neg hsc]
       refine ⟨v, rfl, { g1 with F := F' }, ?_⟩
       have k2 : Stp B g1 w { g1 with F := F' } w' := ⟨hB.mono i1.size, ⟨fun _ _ _ e => e, fun _ _ _ e => e, hF1, fun _ _ _ _ => rfl⟩, fun b o hF => Bj.of_block (hB.block b (i1.fsize b o hF)), fun b o e hb => hF2 b o e (by have := i1.size; omega)⟩
       exact ⟨k1.trans k2, i1.keep k2 rfl rfl (fun b hb _ => ⟨hB.block b hb, fun x hx => hF2 b x hx hb⟩) hF3, hr.toRA (fun _ _ h => h)⟩
      ·rintro v w' ⟨gh', q1, q2, q3⟩
       exact hn v w' gh' q1 q2 q3
     ·cases e
    ·cases e
   ·rename_i hnone
    split at e
    ·rename_i sz x hcl hargs
     obtain ⟨hok, hb⟩ := hP.2.2 g sz hcl
     obtain ⟨ff, fs, cs, hv, hfs, hcs, hff⟩ := callee_rel (hρ f) hg
     simp only at hff; subst hff
     have hfs0 : fs = #[] := by have := hfs.1; simp at this; simpa using this.symm
     have hcs0 : cs = #[] := by have := hcs.1; simp at this; simpa using this.symm
     subst hfs0; subst hcs0
     have hxr := hρ x
     have one1 : c.args.toList.map a.eval = [a.eval x] := by rw [hargs]; rfl
     obtain ⟨hnil, hsl⟩ := hok gh.F w (a.eval x) hI.fsize hI.glob
     have fin : ∀ (R : Value → World → Prop), Calls C.P g #[a.eval x] w (fun e w' => ∃ v, e = .returned v ∧ R v w') → (∀ v w', R v w' → next (a.put o.dst v) w') → o.wpIn (fz r) n C.P a w next Q := by
      intro R hc hR
      refine call_upon hop hcal hv hb (R := R) (callsIn_fz (m := 0) ?_) hR
      rw [one1]
      exact hc
     have rows : ∀ (sz' : Nat) (rows : A8) (full : Bool), RD gh.F w (.sl sz' full rows) (a.eval x) → cloneRows (Au fn o.dst) sz sz' rows h = some (x0, h') → o.wpIn (fz r) n C.P a w next Q := by
      intro sz' rows full hrd e
      unfold cloneRows at e
      split at e
      ·rename_i hc
       obtain ⟨rfl, h0, hlt⟩ := hc
       obtain ⟨k1, k2⟩ := hsl full rows hlt hrd
       split at e
       ·rename_i hem
        simp only [Option.some.injEq, Prod.mk.injEq] at e
        obtain ⟨rfl, rfl⟩ := e
        have hr0 : rows = [] := by simpa using hem
        refine fin (fun v w' => Below w.heap.size w w' ∧ ∃ b o, v = .slice (some (Bn b o)) 0 0) ((k1 hr0).mono ?_) ?_
        ·rintro e w' ⟨hB, b, o, rfl⟩
         exact ⟨_, rfl, hB, b, o, rfl⟩
        ·rintro v w' ⟨hB, b, o, rfl⟩
         have k : Stp B gh w gh w' := ⟨hB.mono hI.size, .refl _, fun b o hF => Bj.of_block (hB.block b (hI.fsize b o hF)), fun b o e hb => e⟩
         refine hn _ w' gh k (hI.keep k rfl rfl (fun b hb _ => ⟨hB.block b hb, fun x hx => hx⟩) fun b o hF => by have := hI.fsize b o hF; have := hB.size; omega) (.d _ _ ?_)
         exact .sl _ _ _ b o 0 0 (fun _ _ => undef) rfl (Nat.le_refl _) (fun _ => rfl) (fun i r hr => by simp at hr) (fun i j r hr => by simp at hr) (fun i j r y hr => by simp at hr)
       ·rename_i hem
        simp only [Option.some.injEq, Prod.mk.injEq] at e
        obtain ⟨rfl, rfl⟩ := e
        have hr0 : rows ≠ [] := by rintro rfl; simp at hem
        refine fin (fun v w' => ∃ (F' : Nat → Nat → Prop) (b cap : Nat) (vs tail : List Value) (elem : TypeId), v = .slice (some (Bn b 0)) rows.length cap ∧ Below w.heap.size w w' ∧
         (∀ b o, gh.F b o → F' b o) ∧ (∀ b o, F' b o → b < w.heap.size → gh.F b o) ∧ (∀ b o, F' b o → b < w'.heap.size) ∧ w.heap.size ≤ b ∧ b < w'.heap.size ∧ (∀ o, ¬ F' b o) ∧
         w'.heap[b]? = some (.cells (vs ++ tail).toArray elem (0, 0)) ∧ rows.length ≤ cap ∧ cap * sz' ≤ (vs ++ tail).length ∧ vs.length = rows.flatten.length ∧
         ∀ (k : Nat) (y : DV) (x : Value), rows.flatten[k]? = some y → vs[k]? = some x → y = .v x ∨ RD F' w' y x) ((k2 hr0).mono ?_) ?_
        ·rintro e w' ⟨F', b, cap, vs, tail, elem, rfl, hrest⟩
         exact ⟨_, rfl, F', b, cap, vs, tail, elem, rfl, hrest⟩
        ·rintro v w' ⟨F', b, cap, vs, tail, elem, rfl, hB, f1, f2, f3, b1, b2, fb, hblk, hcap, hz, hvl, hrel⟩
         obtain ⟨k, hI', hJ⟩ := hI.attach (b0 := b) (z0 := (vs ++ tail).length) (o := .cells (rows.flatten.map .d) false) (F' := F') (Au fn o.dst) hB b1 b2 f1 f2 f3 (fun k => ⟨vs, tail, elem, hblk, by simp [Gh.addF, Gh.addJ], ⟨by rw [List.length_map, hvl], fun i y x hy hx => by
          simp only [List.getElem?_map, Option.map_eq_some_iff] at hy
          obtain ⟨y', hy', rfl⟩ := hy
          rcases hrel i y' x hy' hx with rfl | h
          ·exact .v _
          ·exact .d _ _ h⟩, fun _ => fb⟩)
         exact hn _ w' _ k hI' (.hs _ _ _ _ _ b 0 cap hJ hcap (fun _ => rfl) (by simp only [Gh.addF, Gh.addJ, if_true]; simpa using hz))
      ·cases e
     unfold cloneOp at e
     split at e
     ·rename_i hxe
      simp only [Option.some.injEq, Prod.mk.injEq] at e
      obtain ⟨rfl, rfl⟩ := e
      rw [hxe] at hxr
      have hv0 := hxr.eq_v
      refine fin (fun v w' => v = a.eval x ∧ Below w.heap.size w w') ((hnil hv0).mono ?_) ?_
      ·rintro e w' ⟨rfl, hB⟩
       exact ⟨_, rfl, rfl, hB⟩
      ·rintro v w' ⟨rfl, hB⟩
       have k : Stp B gh w gh w' := ⟨hB.mono hI.size, .refl _, fun b o hF => Bj.of_block (hB.block b (hI.fsize b o hF)), fun b o e hb => e⟩
       refine hn _ w' gh k (hI.keep k rfl rfl (fun b hb _ => ⟨hB.block b hb, fun x hx => hx⟩) fun b o hF => by have := hI.fsize b o hF; have := hB.size; omega) ?_
       rw [hxe, hv0]; exact .v _
     ·rename_i sz' full rws hxe
      rw [hxe] at hxr
      cases hxr with
      | d _ _ h => exact rows _ _ _ h e
     ·rename_i sz' rws s0 g0 hxe
      rw [hxe] at hxr
      generalize hvv : a.eval x = vv at hxr rows
      cases hxr with
      | st _ _ _ _ b len cap h ht => exact rows _ _ _ h e
     ·cases e
    ·cases e
  ·cases e
 by_cases hcase2 : ∃ c rv m, o.op = .call c ∧ c.callee = .invoke rv m
 ·obtain ⟨c, rv, m, hop, hcal⟩ := hcase2
  simp only [AA, hop, hcal] at e
  split at e
  ·rename_i g recv hg
   split at e
   ·rename_i spec hspec
    split at e
    ·rename_i ps h1 hps
     split at e
     ·rename_i rs hrs
      simp at e; obtain ⟨rfl, rfl⟩ := e
      obtain ⟨hsat, hb⟩ := hP.1 g spec hspec
      obtain ⟨x0, hx, hrun⟩ := inv_run hop hcal (hρ rv) hg hb
      have h1 : RL gh w [recv] [x0] := ⟨rfl, fun i y v hy hv => by
       cases i with
       | zero => simp at hy hv; subst hy; subst hv; exact hx
       | succ i => simp at hy⟩
      obtain ⟨g1, k1, i1, r1⟩ := freezeAll_out hI (h1.app (hl.map c.args.toList)) hps
      have hcalls := hsat ps rs hrs g1.F w _ i1.fsize i1.glob r1
      refine ⟨fun _ _ => trivial, ?_⟩
      rw [Oper.semAt_eq _ _ _ hdef, hrun, Oper.uponIn_enter]
      refine ⟨fz_depth _ _, (callsIn_fz (m := 0) hcalls).mono ?_⟩
      rintro e w' ⟨v, F', rfl, hB, hF1, hF2, hF3, hr⟩
      by_cases hsc : scalarR rs = true
      ·have k : Stp B gh w gh w' := ⟨hB.mono hI.size, .refl _, fun b o hF => Bj.of_block (hB.block b (hI.fsize b o hF)), fun b o e hb => e⟩
       rw [if_pos hsc] at hn
       exact hn v w' gh k (hI.keep k rfl rfl (fun b hb _ => ⟨hB.block b hb, fun x hx => hx⟩) (fun b o hF => by have := hI.fsize b o hF; have := hB.size; omega)) ((hr.scalar (G := gh.F) hsc).toRA (fun _ _ h => h))
      rw [if_neg hsc] at hn
      have k2 : Stp B g1 w { g1 with F := F' } w' := ⟨hB.mono i1.size, ⟨fun _ _ _ e => e, fun _ _ _ e => e, hF1, fun _ _ _ _ => rfl⟩, fun b o hF => Bj.of_block (hB.block b (i1.fsize b o hF)), fun b o e hb => hF2 b o e (by have := i1.size; omega)⟩
      exact hn v w' _ (k1.trans k2) (i1.keep k2 rfl rfl (fun b hb _ => ⟨hB.block b hb, fun x hx => hF2 b x hx hb⟩) hF3) (hr.toRA (fun _ _ h => h))
     ·cases e
    ·cases e
   ·cases e
  ·cases e
 ·exact wpIn_of_out hdef (opFun_out hI hρ e (fun c f h1 h2 => hcase ⟨c, f, h1, h2⟩) (fun c rv m h1 h2 => hcase2 ⟨c, rv, m, h1, h2⟩)) hn
theorem stepF_sound {r : Option Nat} {n : Nat} {fn : FuncId} {ops : Array Oper} {i : Nat} {s s1 : St} {a : Act} {next : Act → World → Prop} {Q : Exit → Act → World → Prop}
  (hP : Aw C) (hI : Inv C B K gh s.h w) (hl : RL gh w s.σ a.tmps.toList) (e : stepF C fn ops i s = some s1)
  (hn : ∀ a' w' gh', Stp B gh w gh' w' → Inv C B K gh' s1.h w' → RL gh' w' s1.σ a'.tmps.toList → a'.defers = a.defers → next a' w') : wpOpIn (fz r) n C.P ops Q i next a w := by
 unfold stepF at e
 unfold wpOpIn
 cases ho : ops[i]? with
 | none => simp [ho] at e; subst e; exact hn a w gh (.refl _ _ _) hI hl rfl
 | some o =>
  simp only [ho] at e ⊢
  split at e
  rotate_left
  ·cases e
  rename_i hk
  rw [wanted_rel hl _ hk] at e
  split at e
  ·rename_i hw
   rw [if_pos hw]
   split at e
   ·rename_i x h' hx
    simp at e; subst e
    refine op_sound hP hI hl hx (fun v w' gh' k hI' hr => hn _ w' gh' k (by rw [put_h]; exact hI') (put_rel (hl.mono k) hr) ?_)
    cases o.dst <;> rfl
   ·cases e
  ·rename_i hw
   rw [if_neg hw]
   simp at e; subst e
   refine ⟨fun _ _ => trivial, hn _ w gh (.refl _ _ _) (by rw [put_h]; exact hI) (put_rel hl (.v _)) ?_⟩
   cases o.dst <;> rfl
end Go.Ev
namespace Go.Ev
open Go Go.RowKit
variable {C : Ctx}
theorem opFun_cls0 {fn : FuncId} {o : Oper} (hc : Bz o.op = 0) (ρ : Operand → AV) (h : H) : AA C fn o ρ h = (AA C fn o ρ {}).map fun p => (p.1, h) := by
 unfold AA
 dsimp only
 cases hop : o.op <;> simp only [hop] at hc ⊢ <;> try (simp [Bz] at hc; done)
 all_goals try ((repeat' split) <;> simp_all)
 case call c =>
  obtain ⟨cal, args, ats⟩ := c
  cases cal with
  | value f => cases f <;> simp [Bz] at hc
  | invoke r m => simp [Bz] at hc
  | builtin b => cases b <;> simp [Bz] at hc <;> simp <;> (repeat' split) <;> simp_all
theorem rowsOf_plain {a : AV} (ha : (toPV a).isSome = true) (h : H) : rowsOf h a = rowsOf {} a := by
 cases a with
 | hs => simp [toPV, cellD] at ha
 | d x => cases x <;> rfl
 | _ => rfl
theorem opFun_nt {fn : FuncId} {o : Oper} {args : Array Operand} {ats : Array TypeId} (hop : o.op = .call { callee := .builtin .append, args := args, argTypes := ats }) (hn : C.nt fn (o.dst.getD 8000) = true) (ρ : Operand → AV)
  (ha : (args.toList.all fun x => (toPV (ρ x)).isSome) = true) (h : H) : AA C fn o ρ h = (AA C fn o ρ {}).map fun p => (p.1, h) := by
 unfold AA
 simp only [hop]
 split
 ·rename_i s x t u hargs hts
  split
  ·rw [hargs] at ha
   simp only [List.all_cons, List.all_nil, Bool.and_true, Bool.and_eq_true] at ha
   have e : ∀ sz, appArg sz h (ρ x) = appArg sz {} (ρ x) := by
    intro sz
    unfold appArg
    split
    ·rfl
    ·rfl
    ·exact rowsOf_plain ha.2 h
   unfold appendOp
   simp only [e, hn, if_true]
   unfold ntAppend
   (repeat' split) <;> simp_all
  ·rfl
 ·rfl
theorem opFun_cls1 {fn : FuncId} {o : Oper} (hc : Bz o.op = 1) (ρ : Operand → AV) (h h' : H) (hs : ∀ s g, BA ρ o.op = some (s, g) → h'.get s g = h.get s g) :
  AA C fn o ρ h' = (AA C fn o ρ h).map fun p => (p.1, h') := by
 unfold AA
 dsimp only
 cases hop : o.op <;> simp only [hop] at hc hs ⊢ <;> try (simp [Bz] at hc; done)
 case load t a =>
  have e : loadOp C t (ρ a) h' = loadOp C t (ρ a) h := by
   unfold loadOp
   split
   ·rename_i s g off ha
    rw [hs s g (by simp [BA, ha])]
   ·rfl
   ·rfl
   ·rfl
  rw [e]
  split <;> simp
 case lookup t m k ok =>
  have e : mapEs h' (ρ m) = mapEs h (ρ m) := by
   unfold mapEs
   split
   ·rfl
   ·rfl
   ·rename_i s g ha
    rw [hs s g (by simp [BA, ha])]
   ·rfl
  rw [e]
  (repeat' split) <;> simp_all
 case call c =>
  obtain ⟨cal, args, ats⟩ := c
  cases cal with
  | value f => cases f <;> simp [Bz] at hc
  | invoke r m => simp [Bz] at hc
  | builtin b =>
   cases b <;> simp [Bz] at hc
   simp only
   split
   ·rename_i x t ts hargs hts
    have e : lenOp C t h' (ρ x) = lenOp C t h (ρ x) := by
     unfold lenOp
     split
     ·rfl
     ·rfl
     ·rfl
     ·rfl
     ·rename_i s g _ ha
      rw [hs s g (by simp [BA, hargs, ha])]
     ·rfl
     ·rfl
    rw [e]
    (repeat' split) <;> simp_all
   ·rfl
theorem opFun_cls1_none {fn : FuncId} {o : Oper} (hc : Bz o.op = 1) (ρ : Operand → AV) (h : H) (s g : Nat) (hs : BA ρ o.op = some (s, g)) (hn : h.get s g = none) : AA C fn o ρ h = none := by
 unfold AA
 dsimp only
 cases hop : o.op <;> simp only [hop] at hc hs ⊢ <;> try (simp [Bz] at hc; done)
 case load t a =>
  simp only [BA] at hs
  split at hs
  ·rename_i s' g' off ha
   simp at hs; obtain ⟨rfl, rfl⟩ := hs
   simp [loadOp, ha, hn]
  ·cases hs
 case lookup t m k ok =>
  simp only [BA] at hs
  split at hs
  ·rename_i s' g' ha
   simp at hs; obtain ⟨rfl, rfl⟩ := hs
   simp [mapEs, tabIn, ha, hn]
  ·cases hs
 case call c =>
  obtain ⟨cal, args, ats⟩ := c
  cases cal with
  | value f => cases f <;> simp [Bz] at hc
  | invoke r m => simp [Bz] at hc
  | builtin b =>
   cases b <;> simp [Bz] at hc
   simp only [BA] at hs
   split at hs
   ·rename_i x hx
    split at hs
    ·rename_i s' g' ha
     simp at hs; obtain ⟨rfl, rfl⟩ := hs
     simp only
     split
     ·rename_i x' t ts hargs hts
      rw [hx] at hargs
      simp at hargs; subst hargs
      have e1 : lenOp C t h (ρ x) = none := by
       unfold lenOp
       rw [ha]
       split <;> simp_all
      have e2 : B5 C o ρ = none := by
       unfold B5
       rw [if_neg]
       rw [hop]
       simp [Op.operands, Call.operands, hx, ha, toV]
      simp [e1, e2]
     ·rfl
    ·cases hs
   ·cases hs
theorem opFun_cls2 {fn : FuncId} {o : Oper} (hc : Bz o.op = 2) (ρ : Operand → AV) : ∃ f : Option (AV ⊕ ((Nat → AV) × AO)), ∀ h,
  AA C fn o ρ h = match f with
   | none => none
   | some (.inl a) => some (a, h)
   | some (.inr (mk, ob)) => some (mk (h.count (Au fn o.dst)), h.push (Au fn o.dst) ob) := by
 unfold AA
 dsimp only
 cases hop : o.op <;> simp only [hop] at hc ⊢ <;> try (simp [Bz] at hc; done)
 case alloc t =>
  cases hz : BL C t with
  | none => exact ⟨none, fun h => rfl⟩
  | some z => exact ⟨some (.inr (fun n => .ptr (Au fn o.dst) n 0, .cells (z.cells.toList.map fun c => .d (.v c)) false)), fun h => rfl⟩
 case box t x =>
  by_cases hb : (AX (ρ x)).all isCell = true
  ·exact ⟨some (.inr (fun n => .ptr (Au fn o.dst) n 0, .cells (AX (ρ x)) false)), fun h => by simp [hb, newObj]⟩
  ·exact ⟨none, fun h => by simp [hb]⟩
 case buildSlice t len parts =>
  split
  ·split
   ·split
    ·split
     ·split
      ·exact ⟨some (.inr (fun k => .hs (Au fn o.dst) k 0 len _, _)), fun h => rfl⟩
      ·split
       ·exact ⟨some (.inl _), fun h => rfl⟩
       ·exact ⟨none, fun h => rfl⟩
     ·exact ⟨none, fun h => rfl⟩
    ·exact ⟨none, fun h => rfl⟩
   ·exact ⟨none, fun h => rfl⟩
  ·exact ⟨none, fun h => rfl⟩
 case makeMap t r =>
  cases r with
  | none => exact ⟨some (.inr (fun n => .mp (Au fn o.dst) n, .map [] false)), fun h => rfl⟩
  | some r => exact ⟨none, fun h => rfl⟩
 case makeSlice t l c =>
  split
  ·split
   ·split
    ·exact ⟨some (.inr (fun k => .hs (Au fn o.dst) k 0 _ _, _)), fun h => rfl⟩
    ·exact ⟨none, fun h => rfl⟩
   ·exact ⟨none, fun h => rfl⟩
  ·exact ⟨none, fun h => rfl⟩
 case call c =>
  obtain ⟨cal, args, ats⟩ := c
  cases cal with
  | value f => cases f <;> simp [Bz] at hc
  | invoke r m => simp [Bz] at hc
  | builtin b => cases b <;> simp [Bz] at hc
theorem freezeAll_plain {l : List AV} (hl : (l.all fun a => (toPV a).isSome) = true) (h : H) : Ba h l = (Ba {} l).map fun p => (p.1, h) := by
 induction l with
 | nil => rfl
 | cons a l ih =>
  simp only [List.all_cons, Bool.and_eq_true] at hl
  obtain ⟨p, hp⟩ := Option.isSome_iff_exists.1 hl.1
  have e : ∀ h, freeze1 h a = some (p, h) := by
   intro h
   have e0 : freeze0 h a = some (p, h) := by
    unfold freeze0
    split
    ·simp [toPV, cellD] at hp
    ·simp [toPV, cellD] at hp
    ·simp [hp]
   simp only [freeze1, e0]
  simp only [Ba, e]
  rw [ih hl.2]
  cases Ba {} l <;> simp
theorem methA_val {a recv : AV} {m : String} {g : FuncId} (h : methA C a m = some (g, recv)) (hv : ifcVal a = true) : (toPV recv).isSome = true := by
 unfold methA at h
 dsimp only at h
 split at h
 ·rename_i t x
  simp only [ifcVal] at hv
  (repeat' split at h) <;> simp_all
 ·rename_i t v
  simp only [ifcVal] at hv
  (repeat' split at h) <;> simp_all
 ·cases h
theorem opFun_inv4 {fn : FuncId} {o : Oper} {rv : Operand} {m : String} {args : Array Operand} {ats : Array TypeId} (hop : o.op = .call { callee := .invoke rv m, args := args, argTypes := ats }) (σ : List AV)
  (hv : ifcVal (Az σ rv) = true) (ha : (args.toList.all fun x => (toPV (Az σ x)).isSome) = true) (h : H) : AA C fn o (Az σ) h = (AA C fn o (Az σ) {}).map fun p => (p.1, h) := by
 unfold AA
 simp only [hop]
 split
 ·rename_i g recv hg
  have hr := methA_val hg hv
  split
  ·rename_i spec hs
   rw [freezeAll_plain (l := recv :: args.toList.map (Az σ)) (by simp only [List.all_cons, hr, Bool.true_and, List.all_map]; exact ha) h]
   cases Ba {} (recv :: args.toList.map (Az σ)) with
   | none => simp
   | some q =>
    simp
    cases spec q.1 with
    | none => simp
    | some rs => simp
  ·rfl
 ·rfl
theorem opFun_cls4 {fn : FuncId} {o : Oper} {g : FuncId} {args : Array Operand} {ats : Array TypeId} (hop : o.op = .call { callee := .value (.func g), args := args, argTypes := ats }) (hp : (C.prim g).isSome = true) (σ : List AV)
  (ha : (args.toList.all fun x => (toPV (Az σ x)).isSome) = true) (h : H) : AA C fn o (Az σ) h = (AA C fn o (Az σ) {}).map fun p => (p.1, h) := by
 unfold AA
 simp only [hop, Az, BO]
 split
 ·rename_i spec hs
  simp only [List.map_nil, List.nil_append, List.append_nil]
  rw [freezeAll_plain (l := args.toList.map (Az σ)) (by simpa using ha) h]
  cases Ba {} (args.toList.map (Az σ)) with
  | none => simp
  | some q =>
   simp
   cases spec q.1 <;> simp
 ·rename_i hn
  rw [hn] at hp; cases hp
theorem opFun_clone {fn : FuncId} {o : Oper} {g sz : Nat} {args : Array Operand} {ats : Array TypeId} (hop : o.op = .call { callee := .value (.func g), args := args, argTypes := ats }) (hp : C.prim g = none) (hcl : C.clone g = some sz) (σ : List AV) :
  ∃ f : Option (AV ⊕ ((Nat → AV) × AO)), ∀ h, AA C fn o (Az σ) h = match f with
   | none => none
   | some (.inl a) => some (a, h)
   | some (.inr (mk, ob)) => some (mk (h.count (Au fn o.dst)), h.push (Au fn o.dst) ob) := by
 have rows : ∀ (sz' : Nat) (rows : A8), ∃ f : Option (AV ⊕ ((Nat → AV) × AO)), ∀ h, cloneRows (Au fn o.dst) sz sz' rows h = match f with
   | none => none
   | some (.inl a) => some (a, h)
   | some (.inr (mk, ob)) => some (mk (h.count (Au fn o.dst)), h.push (Au fn o.dst) ob) := by
  intro sz' rows
  unfold cloneRows
  split
  ·split
   ·exact ⟨some (.inl _), fun h => rfl⟩
   ·exact ⟨some (.inr (fun n => .hs (Au fn o.dst) n 0 rows.length sz, _)), fun h => rfl⟩
  ·exact ⟨none, fun h => rfl⟩
 unfold AA
 simp only [hop, Az, BO, hp, hcl]
 simp only [List.map_nil]
 split
 ·rename_i sz1 x e1 e2 e3 e4
  simp only [Option.some.injEq] at e1
  subst e1
  unfold cloneOp
  split
  ·exact ⟨some (.inl _), fun h => rfl⟩
  ·exact rows _ _
  ·exact rows _ _
  ·exact ⟨none, fun h => rfl⟩
 ·exact ⟨none, fun h => rfl⟩
end Go.Ev
namespace Go.Ev
open Go Go.RowKit
variable {C : Ctx}
theorem plainOp_congr {o : Oper} {ρ ρ' : Operand → AV} (hsel : ∀ cs b, o.op ≠ .select cs b) (h : ∀ x ∈ o.op.operands, ρ x = ρ' x) : B5 C o ρ = B5 C o ρ' := by
 unfold B5
 have e1 : (o.op.operands.toList.all fun x => (toV (ρ x)).isSome) = (o.op.operands.toList.all fun x => (toV (ρ' x)).isSome) := by
  rw [Bool.eq_iff_iff, List.all_eq_true, List.all_eq_true]
  exact ⟨fun hh x hx => by rw [← h x (by simpa using hx)]; exact hh x hx, fun hh x hx => by rw [h x (by simpa using hx)]; exact hh x hx⟩
 have e2 : execOp (fun x => (toV (ρ x)).getD undef) o = execOp (fun x => (toV (ρ' x)).getD undef) o := execOp_congr o hsel (fun x hx => by simp only [h x hx])
 rw [e1, e2]
theorem boundA_congr {ρ ρ' : Operand → AV} {d : Nat} {x : Option Operand} (h : ∀ y, x = some y → ρ y = ρ' y) : Bt ρ d x = Bt ρ' d x := by
 cases x with
 | none => rfl
 | some y => simp only [Bt, h y rfl]
theorem opFun_congr {fn : FuncId} {o : Oper} {ρ ρ' : Operand → AV} {hh : H} (h : ∀ x ∈ o.op.operands, ρ x = ρ' x) : AA C fn o ρ hh = AA C fn o ρ' hh := by
 have pl : (∀ cs b, o.op ≠ .select cs b) → B5 C o ρ = B5 C o ρ' := fun hs => plainOp_congr hs h
 unfold AA
 dsimp only
 cases hop : o.op <;> simp only [hop, Op.operands] at h ⊢
 case move x => rw [h x (by simp)]
 case assign x => rw [h x (by simp)]
 case pick c a b => rw [h c (by simp), h a (by simp), h b (by simp)]
 case box t x => rw [h x (by simp)]
 case build t parts =>
  have e : (parts.toList.map fun p => (p.1, ρ p.2)) = (parts.toList.map fun p => (p.1, ρ' p.2)) := List.map_congr_left fun p hp => by rw [h p.2 (by simpa using ⟨p.1, by simpa using hp⟩)]
  rw [e]
 case buildSlice t len parts =>
  have e : (parts.toList.map fun p => (p.1, ρ p.2)) = (parts.toList.map fun p => (p.1, ρ' p.2)) := List.map_congr_left fun p hp => by rw [h p.2 (by simpa using ⟨p.1, by simpa using hp⟩)]
  rw [e]
 case insert t m k v => rw [h m (by simp), h k (by simp), h v (by simp)]
 case load t a => rw [h a (by simp)]
 case store t a v => rw [h a (by simp), h v (by simp)]
 case nilCheck x => rw [h x (by simp), pl (by simp [hop])]
 case binOp op t x y t2 => rw [h x (by simp), h y (by simp), pl (by simp [hop])]
 case unOp op t x => rw [pl (by simp [hop])]
 case convert s d x => rw [pl (by simp [hop])]
 case sliceToArrayPointer d x => rw [pl (by simp [hop])]
 case makeInterface t x => rw [pl (by simp [hop]), h x (by simp)]
 case makeFunc f first cap =>
  have e1 : first.toList.map ρ = first.toList.map ρ' := List.map_congr_left fun p hp => h p (by simp at hp ⊢; exact .inl hp)
  have e2 : cap.toList.map ρ = cap.toList.map ρ' := List.map_congr_left fun p hp => h p (by simp at hp ⊢; exact .inr hp)
  rw [e1, e2]
 case makeChan t x => rw [pl (by simp [hop])]
 case makeSlice t l c => rw [h l (by simp), h c (by simp)]
 case slice t x lo hi mx =>
  have e : sliceOp C t (ρ x) ρ lo hi mx = sliceOp C t (ρ' x) ρ' lo hi mx := by
   have b1 : ∀ d, Bt ρ d lo = Bt ρ' d lo := fun d => boundA_congr fun y hy => h y (by subst hy; simp)
   have b2 : ∀ d, Bt ρ d hi = Bt ρ' d hi := fun d => boundA_congr fun y hy => h y (by subst hy; simp)
   have b3 : ∀ d, Bt ρ d mx = Bt ρ' d mx := fun d => boundA_congr fun y hy => h y (by subst hy; simp)
   unfold sliceOp
   simp only [b1, b2, b3, h x (by simp)]
  rw [e, pl (by simp [hop])]
 case fieldAddr t x f => rw [h x (by simp)]
 case field t x f => rw [h x (by simp)]
 case indexAddr t x i => rw [h x (by simp), h i (by simp)]
 case index t x i => rw [h x (by simp), h i (by simp), pl (by simp [hop])]
 case lookup t x i ok => rw [h x (by simp), h i (by simp)]
 case mapUpdate t m k v => rw [h m (by simp), h k (by simp), h v (by simp)]
 case mapEntry t m k => rw [pl (by simp [hop])]
 case entryStore t m k v => rw [pl (by simp [hop])]
 case range t x => rw [h x (by simp)]
 case next x b => rw [pl (by simp [hop])]
 case entry x => rw [h x (by simp)]
 case typeAssert x a b c => rw [pl (by simp [hop]), h x (by simp)]
 case extract x i => rw [h x (by simp)]
 case call c =>
  obtain ⟨cal, args, ats⟩ := c
  simp only [Call.operands] at h
  have ha : args.toList.map ρ = args.toList.map ρ' := List.map_congr_left fun p hp => h p (by simp at hp ⊢; exact .inr hp)
  have hin : ∀ x ∈ args.toList, ρ x = ρ' x := fun p hp => h p (by simp at hp ⊢; exact .inr hp)
  cases cal with
  | value f =>
   have hf := h f (by simp)
   simp only [hf, ha]
   split
   ·split
    ·rfl
    ·split
     ·rename_i x e1 e2 e3
      rw [hin x (by rw [e2]; simp)]
     ·rfl
   ·rfl
  | invoke r m =>
   have hf := h r (by simp)
   simp only [hf, ha]
  | builtin b =>
   have p' := pl (by simp [hop])
   cases b <;> simp only [p']
   case append =>
    split
    ·rename_i s x t u hargs hts
     rw [hin s (by simp [hargs]), hin x (by simp [hargs])]
    ·rfl
   case len =>
    split
    ·rename_i x t ts hargs hts
     rw [hin x (by simp [hargs])]
    ·rfl
   case clear =>
    split
    ·rename_i x t hargs hts
     rw [hin x (by simp [hargs])]
    ·rfl
   case copy =>
    split
    ·rename_i d x t u hargs hts
     rw [hin d (by simp [hargs]), hin x (by simp [hargs])]
    ·rfl
 case panic x => rw [pl (by simp [hop])]
 case send a b => rw [pl (by simp [hop])]
 case recv t x b => rw [pl (by simp [hop])]
 case ready g => rw [pl (by simp [hop])]
 case waits g => rw [pl (by simp [hop])]
def Cv (C : Ctx) (fn : FuncId) (ops : Array Oper) (o : Oper) (σ : List AV) (h : H) : Option (AV × H) :=
 if (!AH ops σ o || byVal C fn ops σ o) = true then
  if gknown ops σ o then if AH ops σ o then AA C fn o (Az σ) h else some (B7, h) else none
 else none
theorem stepD_eff {fn : FuncId} {ops : Array Oper} {i : Nat} {o : Oper} {s : St} (ho : ops[i]? = some o) :
  stepD C fn ops i s = match Cv C fn ops o s.σ s.h with | some (a, h) => some (s.put o.dst a h) | none => none := by
 unfold stepD Cv stepF
 simp only [ho, Option.map_some, Option.getD_some]
 split
 ·split
  ·split
   ·rfl
   ·rfl
  ·rfl
 ·rfl
theorem evalA_congr {σ σ' : List AV} {l : List Operand} (h : ∀ t ∈ tmpsOf l, σ[t]? = σ'[t]?) : ∀ x ∈ l, Az σ x = Az σ' x := by
 intro x hx
 cases x with
 | tmp t => simp only [Az]; rw [h t (List.mem_filterMap.2 ⟨.tmp t, hx, rfl⟩)]
 | _ => rfl
theorem mainId_congr {ρ ρ' : Operand → AV} {op : Op} (h : ∀ x ∈ op.operands, ρ x = ρ' x) : BA ρ op = BA ρ' op := by
 unfold BA
 cases op <;> simp only [Op.operands, Call.operands] at h ⊢
 case load t a => rw [h a (by simp)]
 case lookup t m k ok => rw [h m (by simp)]
 case call c =>
  obtain ⟨cal, args, ats⟩ := c
  simp only
  split
  ·rename_i x hx
   rw [h x (by
    simp only [Array.mem_append]
    exact .inr (by rw [← Array.mem_toList_iff, hx]; simp))]
  ·rfl
theorem eff_congr {fn : FuncId} {ops : Array Oper} {o : Oper} {σ σ' : List AV} {h : H} (hr : ∀ t ∈ readsOf ops o, σ[t]? = σ'[t]?) : Cv C fn ops o σ h = Cv C fn ops o σ' h := by
 have h1 : ∀ x ∈ o.op.operands, Az σ x = Az σ' x := fun x hx => evalA_congr (l := o.op.operands.toList) (fun t ht => hr t (List.mem_append_left _ ht)) x (by simpa using hx)
 have h2 : AH ops σ o = AH ops σ' o := by
  unfold AH Region.wanted
  cases hg : o.guard with
  | none => rfl
  | some gw =>
   obtain ⟨j, b⟩ := gw
   simp only
   have : yieldedA ops σ j = yieldedA ops σ' j := by
    unfold yieldedA
    cases hd : (ops[j]?).bind (·.dst) with
    | none => rfl
    | some d =>
     simp only [Option.bind_some]
     rw [hr d (List.mem_append_right _ (by simp [hg, hd]))]
   rw [this]
 have h4 : gknown ops σ o = gknown ops σ' o := by
  unfold gknown
  cases hg : o.guard with
  | none => rfl
  | some gw =>
   obtain ⟨j, b⟩ := gw
   simp only
   cases hd : (ops[j]?).bind (·.dst) with
   | none => rfl
   | some d =>
    simp only [Option.bind_some]
    rw [hr d (List.mem_append_right _ (by simp [hg, hd]))]
 unfold Cv
 rw [h2, h4, opFun_congr h1]
 have h3 : byVal C fn ops σ o = byVal C fn ops σ' o := by
  unfold byVal
  split
  ·rename_i f args ats hop
   rw [Bool.eq_iff_iff, List.all_eq_true, List.all_eq_true]
   have hin : ∀ x ∈ args.toList, Az σ x = Az σ' x := fun x hx => h1 x (by rw [hop]; simp [Op.operands, Call.operands]; exact .inr (by simpa using hx))
   exact ⟨fun hh x hx => by rw [← hin x hx]; exact hh x hx, fun hh x hx => by rw [hin x hx]; exact hh x hx⟩
  ·rename_i args ats hop
   rw [Bool.eq_iff_iff, List.all_eq_true, List.all_eq_true]
   have hin : ∀ x ∈ args.toList, Az σ x = Az σ' x := fun x hx => h1 x (by rw [hop]; simp [Op.operands, Call.operands]; simpa using hx)
   exact ⟨fun hh x hx => by rw [← hin x hx]; exact hh x hx, fun hh x hx => by rw [hin x hx]; exact hh x hx⟩
  ·rename_i rv m args ats hop
   rw [h1 rv (by rw [hop]; simp [Op.operands, Call.operands])]
   congr 1
   rw [Bool.eq_iff_iff, List.all_eq_true, List.all_eq_true]
   have hin : ∀ x ∈ args.toList, Az σ x = Az σ' x := fun x hx => h1 x (by rw [hop]; simp [Op.operands, Call.operands]; exact .inr (by simpa using hx))
   exact ⟨fun hh x hx => by rw [← hin x hx]; exact hh x hx, fun hh x hx => by rw [hin x hx]; exact hh x hx⟩
  ·rename_i t a v hop
   rw [h1 a (by rw [hop]; simp [Op.operands])]
  ·rw [mainId_congr h1]
 rw [h3]
theorem cls_0 {fn : FuncId} {o : Oper} (h : Bc C fn o = 0) : Bz o.op = 0 ∨ ∃ args ats, o.op = .call { callee := .builtin .append, args := args, argTypes := ats } ∧ C.nt fn (o.dst.getD 8000) = true := by
 unfold Bc at h
 split at h
 ·rename_i args ats hop
  split at h
  ·rename_i hn; exact .inr ⟨_, _, hop, hn⟩
  ·split at h <;> cases h
 ·split at h
  ·cases h
  ·split at h
   ·cases h
   ·split at h <;> cases h
 ·split at h <;> cases h
 ·exact .inl h
theorem cls_1 {fn : FuncId} {o : Oper} (h : Bc C fn o = 1) : Bz o.op = 1 := by
 unfold Bc at h
 split at h
 ·split at h
  ·cases h
  ·split at h <;> cases h
 ·split at h
  ·cases h
  ·split at h
   ·cases h
   ·split at h <;> cases h
 ·split at h <;> cases h
 ·exact h
theorem cls_2 {fn : FuncId} {o : Oper} (h : Bc C fn o = 2) : Bz o.op = 2 ∨ ∃ g args ats sz, o.op = .call { callee := .value (.func g), args := args, argTypes := ats } ∧ C.prim g = none ∧ C.clone g = some sz := by
 unfold Bc at h
 split at h
 ·split at h
  ·cases h
  ·split at h <;> cases h
 ·rename_i g args ats hop
  split at h
  ·cases h
  ·rename_i hp
   split at h
   ·rename_i hc
    obtain ⟨sz, hsz⟩ := Option.isSome_iff_exists.1 hc
    exact .inr ⟨g, args, ats, sz, hop, by simpa using hp, hsz⟩
   ·split at h <;> cases h
 ·split at h <;> cases h
 ·exact .inl h
theorem clsOf_le {op : Op} : Bz op ≤ 4 := by cases op <;> simp [Bz] <;> (repeat' split) <;> omega
theorem cls_le {fn : FuncId} {o : Oper} : Bc C fn o ≤ 6 := by
 unfold Bc
 split
 ·split
  ·omega
  ·split <;> omega
 ·split
  ·omega
  ·split
   ·omega
   ·split <;> omega
 ·split <;> omega
 ·have := clsOf_le (op := o.op); omega
theorem cls_6 {fn : FuncId} {o : Oper} (h : Bc C fn o = 6) : ∃ g args ats, o.op = .call { callee := .value (.func g), args := args, argTypes := ats } ∧ C.prim g = none ∧ C.clone g = none := by
 unfold Bc at h
 split at h
 ·split at h
  ·cases h
  ·split at h <;> cases h
 ·rename_i g args ats hop
  split at h
  ·cases h
  ·rename_i hp
   split at h
   ·cases h
   ·rename_i hc
    exact ⟨g, args, ats, hop, by simpa using hp, by simpa using hc⟩
 ·split at h <;> cases h
 ·have := clsOf_le (op := o.op); omega
theorem cls_4 {fn : FuncId} {o : Oper} (h : Bc C fn o = 4) : Bz o.op = 4 := by
 unfold Bc at h
 split at h
 ·split at h
  ·cases h
  ·split at h <;> cases h
 ·rename_i g args ats hop
  rw [hop]; rfl
 ·rename_i rv m args ats hop
  rw [hop]; rfl
 ·exact h
theorem cls_5 {fn : FuncId} {o : Oper} (h : Bc C fn o = 5) : ∃ args ats, o.op = .call { callee := .builtin .append, args := args, argTypes := ats } ∧ C.nt fn (o.dst.getD 8000) = false ∧ C.wr fn (o.dst.getD 8000) = false := by
 unfold Bc at h
 split at h
 ·rename_i args ats hop
  split at h
  ·cases h
  ·rename_i hn
   split at h
   ·cases h
   ·rename_i hw
    exact ⟨_, _, hop, by simpa using hn, by simpa using hw⟩
 ·split at h
  ·cases h
  ·split at h
   ·cases h
   ·split at h <;> cases h
 ·split at h <;> cases h
 ·have := clsOf_le (op := o.op); omega
theorem appArg_val {sz : Nat} {a : AV} (h : (toPV a).isSome = true) (g : H) : appArg sz g a = appArg sz {} a := by
 unfold appArg
 split
 ·rfl
 ·rfl
 ·exact rowsOf_plain h g
theorem append_tok {fn : FuncId} {dst : Option Tmp} {t : TypeId} {s x : AV} (hn : C.nt fn (dst.getD 8000) = false) (hw : C.wr fn (dst.getD 8000) = false) (hx : (toPV x).isSome = true) (h : H) :
  appendOp C fn dst t s x h = (appendOp C fn dst t s x { objs := [], toks := h.toks }).map fun p => (p.1, { h with toks := p.2.toks }) := by
 unfold appendOp
 split
 ·split
  ·rw [appArg_val hx h, appArg_val hx { objs := [], toks := h.toks }]
   split
   ·split
    ·simp only [hn, hw, Bool.false_eq_true, if_false, Bool.false_and]
     split
     ·split
      ·rfl
      ·split <;> rfl
     ·split
      ·split
       ·rfl
       ·split <;> rfl
      ·rfl
     ·have e : ∀ a, H.tok h a = H.tok { objs := [], toks := h.toks } a := fun _ => rfl
      simp only [e]
      split
      ·split <;> rfl
      ·rfl
     ·rfl
    ·rfl
   ·rfl
  ·rfl
 ·rfl
theorem opFun_tok {fn : FuncId} {o : Oper} {args : Array Operand} {ats : Array TypeId} (hop : o.op = .call { callee := .builtin .append, args := args, argTypes := ats }) (hn : C.nt fn (o.dst.getD 8000) = false) (hw : C.wr fn (o.dst.getD 8000) = false) (σ : List AV)
  (hd : args.toList.all (fun x => (toPV (Az σ x)).isSome) = true) (h : H) : AA C fn o (Az σ) h = (AA C fn o (Az σ) { objs := [], toks := h.toks }).map fun p => (p.1, { h with toks := p.2.toks }) := by
 simp only [AA, hop]
 split
 ·rename_i s x t u ha hts
  split
  ·refine append_tok hn hw ?_ h
   rw [ha] at hd
   simp only [List.all_cons, List.all_nil, Bool.and_true, Bool.and_eq_true] at hd
   exact hd.2
  ·rfl
 ·rfl
theorem eff_tok5 {fn : FuncId} {ops : Array Oper} {o : Oper} (σ : List AV) (hc : Bc C fn o = 5) : ∃ g : AC → Option (AV × AC), ∀ h, Cv C fn ops o σ h = (g h.toks).map fun p => (p.1, { h with toks := p.2 }) := by
 obtain ⟨args, ats, hop, hn, hw⟩ := cls_5 hc
 refine ⟨fun tk => (Cv C fn ops o σ { objs := [], toks := tk }).map fun p => (p.1, p.2.toks), fun h => ?_⟩
 unfold Cv
 split
 ·rename_i hd
  split
  ·split
   ·rename_i hwt
    rw [hwt] at hd
    simp only [Bool.not_true, Bool.false_or, byVal, hop] at hd
    rw [opFun_tok hop hn hw σ hd h]
    simp only [Option.map_map]
    rfl
   ·rfl
  ·rfl
 ·rfl
theorem eff_cls {fn : FuncId} {ops : Array Oper} {o : Oper} (σ : List AV) : (Bc C fn o = 0 ∨ Bc C fn o = 4 → ∀ h, Cv C fn ops o σ h = (Cv C fn ops o σ {}).map fun p => (p.1, h)) ∧
  (Bc C fn o = 2 → ∃ f : Option (AV ⊕ ((Nat → AV) × AO)), ∀ h, Cv C fn ops o σ h = match f with
   | none => none
   | some (.inl a) => some (a, h)
   | some (.inr (mk, ob)) => some (mk (h.count (Au fn o.dst)), h.push (Au fn o.dst) ob)) ∧
  (Bc C fn o = 1 → (∀ h h', (∀ s g, BA (Az σ) o.op = some (s, g) → h'.get s g = h.get s g) → Cv C fn ops o σ h' = (Cv C fn ops o σ h).map fun p => (p.1, h')) ∧
   (∀ h a h', Cv C fn ops o σ h = some (a, h') → h' = h ∧ (AH ops σ o = true → ∀ s g, BA (Az σ) o.op = some (s, g) → h.get s g ≠ none))) := by
 refine ⟨fun hc h => ?_, fun hc => ?_, fun hc => ⟨fun h h' hs => ?_, fun h a h' he => ?_⟩⟩
 ·unfold Cv
  split
  ·rename_i hd
   split
   rotate_left
   ·rfl
   split
   ·rename_i hw
    rw [hw] at hd
    simp only [Bool.not_true, Bool.false_or] at hd
    rcases hc with hc | hc
    ·rcases cls_0 hc with hc | ⟨args, ats, hop, hn⟩
     ·exact opFun_cls0 hc _ _
     ·simp only [byVal, hop] at hd
      exact opFun_nt hop hn _ hd h
    ·have hc0 := hc
     replace hc := cls_4 hc
     have : (∃ g args ats, o.op = .call { callee := .value (.func g), args := args, argTypes := ats }) ∨ ∃ rv m args ats, o.op = .call { callee := .invoke rv m, args := args, argTypes := ats } := by
      cases hop : o.op <;> simp only [hop] at hc <;> try (simp [Bz] at hc; done)
      rename_i c
      obtain ⟨cal, args, ats⟩ := c
      cases cal with
      | value f => cases f <;> simp [Bz] at hc; exact .inl ⟨_, _, _, rfl⟩
      | invoke r m => exact .inr ⟨_, _, _, _, rfl⟩
      | builtin b => cases b <;> simp [Bz] at hc
     rcases this with ⟨g, args, ats, hop⟩ | ⟨rv, m, args, ats, hop⟩
     ·simp only [byVal, hop] at hd
      have hp : (C.prim g).isSome = true := by
       simp only [Bc, hop] at hc0
       split at hc0
       ·assumption
       ·split at hc0
        ·cases hc0
        ·split at hc0 <;> cases hc0
      exact opFun_cls4 hop hp σ hd h
     ·simp only [byVal, hop, Bool.and_eq_true] at hd
      exact opFun_inv4 hop σ hd.1 hd.2 h
   ·rfl
  ·rfl
 ·unfold Cv
  split
  ·rename_i hd
   split
   ·split
    ·rename_i hw
     rw [hw] at hd
     simp only [Bool.not_true, Bool.false_or] at hd
     rcases cls_2 hc with hc | ⟨g, args, ats, sz, hop, hp, hcl⟩
     ·obtain ⟨f, hf⟩ := opFun_cls2 (C := C) (fn := fn) hc (Az σ)
      exact ⟨f, hf⟩
     ·exact opFun_clone hop hp hcl σ
    ·exact ⟨some (.inl B7), fun h => rfl⟩
   ·exact ⟨none, fun h => rfl⟩
  ·exact ⟨none, fun h => rfl⟩
 ·unfold Cv
  split
  ·split
   rotate_left
   ·rfl
   split
   ·exact opFun_cls1 (cls_1 hc) _ _ _ hs
   ·rfl
  ·rfl
 ·unfold Cv at he
  split at he
  ·split at he
   rotate_left
   ·cases he
   split at he
   ·have h1 := opFun_cls1 (C := C) (fn := fn) (cls_1 hc) (Az σ) h h (fun _ _ _ => rfl)
    rw [he] at h1
    simp at h1
    refine ⟨h1, fun _ s g hs hn => ?_⟩
    rw [opFun_cls1_none (cls_1 hc) _ _ _ _ hs hn] at he
    cases he
   ·rename_i hw
    simp at he
    exact ⟨he.2.symm, fun hw' => absurd hw' hw⟩
  ·cases he
theorem eff_tok {fn : FuncId} {ops : Array Oper} {o : Oper} (σ : List AV) (hc : Bc C fn o = 1 ∨ Bc C fn o = 2) (h : H) (tk : AC) :
  Cv C fn ops o σ { h with toks := tk } = (Cv C fn ops o σ h).map (fun p => (p.1, { p.2 with toks := tk })) ∧ ∀ a h', Cv C fn ops o σ h = some (a, h') → h'.toks = h.toks := by
 obtain ⟨_, i2, i1⟩ := eff_cls (C := C) (fn := fn) (ops := ops) (o := o) σ
 rcases hc with hc | hc
 ·obtain ⟨j1, j2⟩ := i1 hc
  refine ⟨?_, fun a h' he => by rw [(j2 h a h' he).1]⟩
  rw [j1 h { h with toks := tk } (fun _ _ _ => rfl)]
  cases e : Cv C fn ops o σ h with
  | none => rfl
  | some p =>
   obtain ⟨a, h'⟩ := p
   rw [(j2 h a h' e).1]; rfl
 ·obtain ⟨f, hf⟩ := i2 hc
  refine ⟨?_, fun a h' he => ?_⟩
  ·rw [hf, hf]
   split <;> rfl
  ·rw [hf] at he
   split at he
   ·cases he
   ·simp at he; rw [← he.2]
   ·simp at he; rw [← he.2]; rfl
theorem eff_6 {fn : FuncId} {ops : Array Oper} {o : Oper} {σ : List AV} {h h' : H} {a : AV} (hc : Bc C fn o = 6) (he : Cv C fn ops o σ h = some (a, h')) : h' = h ∧ ∀ h2, Cv C fn ops o σ h2 = some (a, h2) := by
 obtain ⟨g, args, ats, hop, hp, hcl⟩ := cls_6 hc
 unfold Cv at he ⊢
 split at he
 ·rename_i hb
  split at he
  ·rename_i hk
   split at he
   ·rename_i hw
    simp [AA, hop, Az, BO, hp, hcl] at he
   ·rename_i hw
    simp only [Option.some.injEq, Prod.mk.injEq] at he
    obtain ⟨rfl, rfl⟩ := he
    exact ⟨rfl, fun h2 => by simp [hk, hw]⟩
  ·cases he
 ·cases he
theorem fresh_op {fn : FuncId} {ops : Array Oper} {o : Oper} {d : Nat} (hf : B0 C fn ops o = some d) : ∃ t a x, o.op = .store t a x ∧ d < 8000 := by
 unfold B0 at hf
 split at hf
 ·rename_i t a x hop
  split at hf
  ·split at hf
   ·rename_i hc
    simp only [Option.some.injEq] at hf
    subst hf
    simp only [Bool.and_eq_true, decide_eq_true_eq] at hc
    exact ⟨t, a, x, hop, hc.1⟩
   ·cases hf
  ·cases hf
 ·cases hf
theorem eff_store {fn : FuncId} {ops : Array Oper} {o : Oper} {d : Nat} {σ : List AV} {h h' : H} {a : AV} (hf : B0 C fn ops o = some d) (he : Cv C fn ops o σ h = some (a, h')) :
  (h' = h ∧ ∀ h2, Cv C fn ops o σ h2 = some (a, h2)) ∨
  ∃ g ob ob', h.get (A1 fn d) g = some ob ∧ h' = h.set (A1 fn d) g ob' ∧ ∀ h2, h2.get (A1 fn d) g = some ob → Cv C fn ops o σ h2 = some (a, h2.set (A1 fn d) g ob') := by
 obtain ⟨t, av, x, hop, hd⟩ := fresh_op hf
 unfold Cv at he ⊢
 split at he
 ·rename_i hb
  split at he
  ·rename_i hk
   split at he
   ·rename_i hw
    right
    rw [hw] at hb
    simp only [Bool.not_true, Bool.false_or, byVal, hop, hf] at hb
    split at hb
    ·rename_i s g off hp
     simp only [beq_iff_eq] at hb
     subst hb
     simp only [AA, hop, hp, storeOp] at he
     cases hg : h.get (A1 fn d) g with
     | none => simp [hg] at he
     | some ob =>
      cases ob with
      | cells cs fz =>
       cases fz with
       | true => simp [hg] at he
       | false =>
        simp only [hg] at he
        cases hs : AR C t with
        | none => simp [hs] at he
        | some n =>
         simp only [hs] at he
         by_cases hc : (AX (Az σ x)).length = n ∧ off + n ≤ cs.length ∧ (AX (Az σ x)).all isCell = true
         ·rw [if_pos hc] at he
          simp only [Option.some.injEq, Prod.mk.injEq] at he
          obtain ⟨rfl, rfl⟩ := he
          refine ⟨g, .cells cs false, _, hg, rfl, fun h2 hg2 => ?_⟩
          have hb2 : byVal C fn ops σ o = true := by simp only [byVal, hop, hf, hp, beq_self_eq_true]
          rw [if_pos (by simp [hb2]), if_pos hk, if_pos hw]
          simp only [AA, hop, hp, storeOp, hg2, hs]
          rw [if_pos hc]
         ·rw [if_neg hc] at he
          cases he
      | _ => simp [hg] at he
    ·cases hb
   ·rename_i hw
    left
    simp only [Option.some.injEq, Prod.mk.injEq] at he
    obtain ⟨rfl, rfl⟩ := he
    exact ⟨rfl, fun h2 => by simp [hk, hw]⟩
  ·cases he
 ·cases he
end Go.Ev
namespace Go.Ev
open Go Go.RowKit
variable {C : Ctx} {B : Nat} {K : List Nat} {gh : Gh} {h : H} {w : World}
def RV (C : Ctx) (B : Nat) (K : List Nat) (gh : Gh) (w : World) (x : AV) (h' : H) (e : Ending) (w' : World) : Prop := ∃ v, e = .returned v ∧ ∃ gh', Stp B gh w gh' w' ∧ Inv C B K gh' h' w' ∧ RA gh' w' x v
def MF (C : Ctx) (f : FuncId) (args : List AV) (h : H) (x : AV) (h' : H) : Prop :=
 ∀ (r : Option Nat) (n B : Nat) (K : List Nat) (gh : Gh) (w : World) (vs : List Value), Inv C B K gh h w → RL gh w args vs → CallsIn (fz r) n C.P f vs.toArray w (RV C B K gh w x h')
def MY (C : Ctx) (ys yg : Nat) (args : List AV) (h : H) (x : AV) (h' : H) : Prop :=
 ∀ (r : Option Nat) (n B : Nat) (K : List Nat) (gh : Gh) (w : World) (vs : List Value) (b : Nat), gh.J ys yg = some b → Inv C B K gh h w → RL gh w args vs →
  ∃ rec : Loop, w.heap[b]? = some (.loop rec) ∧ vs.length = rec.params.size ∧
   RoundIn (fz r) n C.P b rec.fn ((rec.params.zip vs.toArray).foldl (fun tmps (t, a) => tmps.setIfInBounds t a) rec.tmps) rec.assign rec.body w (RV C B K gh w x h')
theorem yield_run {o : Oper} {c : Call} {f : Operand} {b : Nat} {a : Act} {rec : Loop} {w : World} (hop : o.op = .call c) (hcal : c.callee = .value f) (hv : a.eval f = .func (.yield b) #[] #[])
  (hob : w.heap[b]? = some (.loop rec)) (hn : (c.args.toList.map a.eval).length = rec.params.size) :
  (execOp a.eval o).run C.P w = .ok (.round b rec.fn ((rec.params.zip (c.args.toList.map a.eval).toArray).foldl (fun tmps (t, a) => tmps.setIfInBounds t a) rec.tmps) rec.assign rec.body) w := by
 simp only [execOp, hop, resolve, hcal, hv, Deferred.ofValue, Sem.run_bind, Sem.run_pure, Result.andThen_ok, invoke]
 have e : (#[] ++ c.args.map a.eval) = (c.args.toList.map a.eval).toArray := by
  rw [← Array.toList_inj]; simp
 rw [e]
 exact run_yield hob (by simpa using hn)
inductive BigOp (C : Ctx) (o : Oper) (ρ : Operand → AV) (h : H) (a : AV) (h1 : H) : Prop
 | call (c : Call) (f : Operand) (g : FuncId) (first cap : List AV) (hop : o.op = .call c) (hcal : c.callee = .value f) (hg : BO (ρ f) = some (.fn (.func g), first, cap))
   (hb : ((C.P.funcs[g]?).map fun fn => (fn.body.isSome, fn.name == "runtime.NumGoroutine")) = some (true, false)) (hcall : MF C g (first ++ c.args.toList.map ρ ++ cap) h a h1) : BigOp C o ρ h a h1
 | yld (c : Call) (f : Operand) (ys yg : Nat) (hop : o.op = .call c) (hcal : c.callee = .value f) (hg : BO (ρ f) = some (.yield ys yg, [], [])) (hcall : MY C ys yg (c.args.toList.map ρ) h a h1) : BigOp C o ρ h a h1
 | inv (c : Call) (rv : Operand) (m : String) (g : FuncId) (recv : AV) (hop : o.op = .call c) (hcal : c.callee = .invoke rv m) (hg : methA C (ρ rv) m = some (g, recv))
   (hb : ((C.P.funcs[g]?).map fun fn => (fn.body.isSome, fn.name == "runtime.NumGoroutine")) = some (true, false)) (hcall : MF C g ([recv] ++ c.args.toList.map ρ) h a h1) : BigOp C o ρ h a h1
theorem BigOp.congr {o : Oper} {ρ ρ' : Operand → AV} {a : AV} {h1 : H} (hr : ∀ x ∈ o.op.operands, ρ x = ρ' x) (hb : BigOp C o ρ h a h1) : BigOp C o ρ' h a h1 := by
 have key : ∀ (c : Call) (f : Operand), o.op = .call c → c.callee = .value f → ρ f = ρ' f ∧ c.args.toList.map ρ = c.args.toList.map ρ' := by
  intro c f hop hcal
  rw [hop] at hr
  simp only [Op.operands, Call.operands, hcal] at hr
  exact ⟨hr f (by simp), List.map_congr_left fun p hp => hr p (by simp; exact .inr (by simpa using hp))⟩
 cases hb with
 | call c f g first cap hop hcal hg hb hcall =>
  obtain ⟨k1, k2⟩ := key c f hop hcal
  exact .call c f g first cap hop hcal (by rw [← k1]; exact hg) hb (by rw [← k2]; exact hcall)
 | yld c f ys yg hop hcal hg hcall =>
  obtain ⟨k1, k2⟩ := key c f hop hcal
  exact .yld c f ys yg hop hcal (by rw [← k1]; exact hg) (by rw [← k2]; exact hcall)
 | inv c rv m g recv hop hcal hg hb hcall =>
  rw [hop] at hr
  simp only [Op.operands, Call.operands, hcal] at hr
  have k1 := hr rv (by simp)
  have k2 : c.args.toList.map ρ = c.args.toList.map ρ' := List.map_congr_left fun p hp => hr p (by simp; exact .inr (by simpa using hp))
  exact .inv c rv m g recv hop hcal (by rw [← k1]; exact hg) hb (by rw [← k2]; exact hcall)
theorem big_sound {r : Option Nat} {n : Nat} {o : Oper} {σ : List AV} {h1 : H} {a : Act} {x : AV} {next : Act → World → Prop} {Q : Exit → Act → World → Prop}
  (hI : Inv C B K gh h w) (hl : RL gh w σ a.tmps.toList) (hb : BigOp C o (Az σ) h x h1)
  (hn : ∀ v w' gh', Stp B gh w gh' w' → Inv C B K gh' h1 w' → RA gh' w' x v → next (a.put o.dst v) w') : o.wpIn (fz r) n C.P a w next Q := by
 cases hb with
 | call c f g first cap hop hcal hg hb hcall =>
  obtain ⟨ff, fs, cs, hv, hfs, hcs, hff⟩ := callee_rel (Cr hl f) hg
  simp only at hff; subst hff
  have hargs := (hfs.app (hl.map c.args.toList)).app hcs
  refine call_upon hop hcal hv hb (R := fun v w' => ∃ gh', Stp B gh w gh' w' ∧ Inv C B K gh' h1 w' ∧ RA gh' w' x v) (hcall r (n - 1) B K gh w _ hI hargs) ?_
  rintro v w' ⟨gh', k, hI', hra⟩
  exact hn v w' gh' k hI' hra
 | yld c f ys yg hop hcal hg hcall =>
  obtain ⟨ff, fs, cs, hv, hfs, hcs, b, hff, hJ⟩ := callee_rel (Cr hl f) hg
  subst hff
  have hfs0 : fs = #[] := by have := hfs.1; simp at this; simpa using this.symm
  have hcs0 : cs = #[] := by have := hcs.1; simp at this; simpa using this.symm
  subst hfs0; subst hcs0
  obtain ⟨rec, hob, hlen, hround⟩ := hcall r (n - 1) B K gh w _ b hJ hI (hl.map c.args.toList)
  refine ⟨fun _ _ => trivial, ?_⟩
  rw [Oper.semAt_eq _ _ _ (fun c' h => by rw [hop] at h; cases h), yield_run hop hcal hv hob hlen, Oper.uponIn_round]
  refine ⟨fz_depth _ _, hround.mono ?_⟩
  rintro e w' ⟨v, rfl, gh', k, hI', hra⟩
  exact hn v w' gh' k hI' hra
 | inv c rv m g recv hop hcal hg hb hcall =>
  obtain ⟨x0, hx, hrun⟩ := inv_run hop hcal (Cr hl rv) hg hb
  have h1 : RL gh w [recv] [x0] := ⟨rfl, fun i y v hy hv => by
   cases i with
   | zero => simp at hy hv; subst hy; subst hv; exact hx
   | succ i => simp at hy⟩
  refine ⟨fun _ _ => trivial, ?_⟩
  rw [Oper.semAt_eq _ _ _ (fun c' h => by rw [hop] at h; cases h), hrun, Oper.uponIn_enter]
  refine ⟨fz_depth _ _, (hcall r (n - 1) B K gh w _ hI (h1.app (hl.map c.args.toList))).mono ?_⟩
  rintro e w' ⟨v, rfl, gh', k, hI', hra⟩
  exact hn v w' gh' k hI' hra
inductive StepR (C : Ctx) (fn : FuncId) (ops : Array Oper) (i : Nat) (s : St) : St → Prop
 | det (s1 : St) (h : stepD C fn ops i s = some s1) : StepR C fn ops i s s1
 | big (o : Oper) (a : AV) (h1 : H) (ho : ops[i]? = some o) (hcls : BigC C fn o s.h h1) (hw : wantA ops s.σ o = true) (hb : BigOp C o (Az s.σ) s.h a h1) : StepR C fn ops i s (s.put o.dst a h1)
inductive ExecR (C : Ctx) (fn : FuncId) (ops : Array Oper) : List Nat → St → St → Prop
 | nil (s : St) : ExecR C fn ops [] s s
 | cons (i : Nat) (r : List Nat) (s s1 s2 : St) (h1 : StepR C fn ops i s s1) (h2 : ExecR C fn ops r s1 s2) : ExecR C fn ops (i :: r) s s2
def EffR (C : Ctx) (fn : FuncId) (ops : Array Oper) (o : Oper) (σ : List AV) (h : H) (a : AV) (h1 : H) : Prop :=
 Cv C fn ops o σ h = some (a, h1) ∨ (BigC C fn o h h1 ∧ wantA ops σ o = true ∧ BigOp C o (Az σ) h a h1)
theorem StepR_iff {fn : FuncId} {ops : Array Oper} {i : Nat} {o : Oper} {s s1 : St} (ho : ops[i]? = some o) : StepR C fn ops i s s1 ↔ ∃ a h1, EffR C fn ops o s.σ s.h a h1 ∧ s1 = s.put o.dst a h1 := by
 constructor
 ·intro h
  cases h with
  | det _ h =>
   rw [stepD_eff ho] at h
   cases e : Cv C fn ops o s.σ s.h with
   | none => simp [e] at h
   | some p => obtain ⟨a, h1⟩ := p; simp only [e, Option.some.injEq] at h; exact ⟨a, h1, .inl e, h.symm⟩
  | big o' a h1 ho' hc hw hb =>
   rw [ho] at ho'; obtain rfl : o = o' := by simpa using ho'
   exact ⟨a, h1, .inr ⟨hc, hw, hb⟩, rfl⟩
 ·rintro ⟨a, h1, h | ⟨hc, hw, hb⟩, rfl⟩
  ·exact .det _ (by rw [stepD_eff ho, h])
  ·exact .big o a h1 ho hc hw hb
theorem wantedA_congr {ops : Array Oper} {o : Oper} {σ σ' : List AV} (hr : ∀ t ∈ readsOf ops o, σ[t]? = σ'[t]?) : AH ops σ o = AH ops σ' o := by
 unfold AH Region.wanted
 cases hg : o.guard with
 | none => rfl
 | some gw =>
  obtain ⟨j, b⟩ := gw
  simp only
  have : yieldedA ops σ j = yieldedA ops σ' j := by
   unfold yieldedA
   cases hd : (ops[j]?).bind (·.dst) with
   | none => rfl
   | some d =>
    simp only [Option.bind_some]
    rw [hr d (List.mem_append_right _ (by simp [hg, hd]))]
  rw [this]
theorem wantA_congr {ops : Array Oper} {o : Oper} {σ σ' : List AV} (hr : ∀ t ∈ readsOf ops o, σ[t]? = σ'[t]?) : wantA ops σ o = wantA ops σ' o := by
 unfold wantA
 rw [wantedA_congr hr]
 congr 1
 unfold gknown
 cases hg : o.guard with
 | none => rfl
 | some gw =>
  obtain ⟨j, b⟩ := gw
  simp only
  cases hd : (ops[j]?).bind (·.dst) with
  | none => rfl
  | some d =>
   simp only [Option.bind_some]
   rw [hr d (List.mem_append_right _ (by simp [hg, hd]))]
theorem EffR.congr {fn : FuncId} {ops : Array Oper} {o : Oper} {σ σ' : List AV} {h h1 : H} {a : AV} (hr : ∀ t ∈ readsOf ops o, σ[t]? = σ'[t]?) (he : EffR C fn ops o σ h a h1) : EffR C fn ops o σ' h a h1 := by
 rcases he with he | ⟨hc, hw, hb⟩
 ·exact .inl (by rw [← eff_congr hr]; exact he)
 ·refine .inr ⟨hc, by rw [← wantA_congr hr]; exact hw, hb.congr fun x hx => evalA_congr (l := o.op.operands.toList) (fun t ht => hr t (List.mem_append_left _ ht)) x (by simpa using hx)⟩
end Go.Ev
namespace Go.Ev
open Go
theorem H.set_push_comm (h : H) (s g t : Nat) (x y : AO) (hn : s ≠ t) : (h.set s g x).push t y = (h.push t y).set s g x := by
 simp only [H.push, H.set, AG _ _ _ _ hn, AG _ _ _ _ hn.symm]
 rw [putS_comm _ _ _ _ hn.symm]
theorem H.set_comm (h : H) (s g t k : Nat) (x y : AO) (hn : s ≠ t) : (h.set s g x).set t k y = (h.set t k y).set s g x := by
 simp only [H.set, AG _ _ _ _ hn, AG _ _ _ _ hn.symm]
 rw [putS_comm _ _ _ _ hn.symm]
theorem H.get_set_site (h : H) (s g t k : Nat) (x : AO) (hn : t ≠ s) : (h.set s g x).get t k = h.get t k := by
 simp only [H.get, H.set, AG _ _ _ _ hn]
theorem H.get_push_site (h : H) (s t k : Nat) (x : AO) (hn : t ≠ s) : (h.push s x).get t k = h.get t k := by
 simp only [H.get, H.push, AG _ _ _ _ hn]
end Go.Ev
namespace Go.Ev
open Go Go.RowKit
variable {C : Ctx} {B : Nat} {K : List Nat} {gh : Gh} {h : H} {w : World}
def Dom (C : Ctx) (fn : FuncId) (ops : Array Oper) (o : Oper) (s : St) : Prop := Bc C fn o = 1 → AH ops s.σ o = true → ∀ sg g, BA (Az s.σ) o.op = some (sg, g) → ∃ ob, s.h.get sg g = some ob
theorem siteOf_ne {fn : FuncId} {d e : Option Tmp} (h : d.getD 8000 ≠ e.getD 8000) : Au fn d ≠ Au fn e := by
 cases d <;> cases e <;> simp [Au, A1] at h ⊢ <;> omega
theorem eff_id {fn : FuncId} {ops : Array Oper} {o : Oper} {σ : List AV} (hc : Bc C fn o = 0 ∨ Bc C fn o = 4 ∨ Bc C fn o = 6) {h h' : H} {a : AV} (he : Cv C fn ops o σ h = some (a, h')) : h' = h ∧ ∀ h2, Cv C fn ops o σ h2 = some (a, h2) := by
 rcases hc with hc | hc | hc
 ·have e := (eff_cls (C := C) (fn := fn) (ops := ops) (o := o) σ).1 (.inl hc)
  rw [e] at he
  cases e1 : Cv C fn ops o σ {} with
  | none => simp [e1] at he
  | some p =>
   rw [e1] at he
   simp at he
   obtain ⟨rfl, rfl⟩ := he
   exact ⟨rfl, fun h2 => by rw [e, e1]; rfl⟩
 ·have e := (eff_cls (C := C) (fn := fn) (ops := ops) (o := o) σ).1 (.inr hc)
  rw [e] at he
  cases e1 : Cv C fn ops o σ {} with
  | none => simp [e1] at he
  | some p =>
   rw [e1] at he
   simp at he
   obtain ⟨rfl, rfl⟩ := he
   exact ⟨rfl, fun h2 => by rw [e, e1]; rfl⟩
 ·exact eff_6 hc he
theorem eff_unw {fn : FuncId} {ops : Array Oper} {σ : List AV} (o : Oper) (g1 g2 : H) (a : AV) (g1' : H) (hw : AH ops σ o ≠ true) (he : Cv C fn ops o σ g1 = some (a, g1')) : g1' = g1 ∧ Cv C fn ops o σ g2 = some (a, g2) := by
 unfold Cv at he ⊢
 have hw' : AH ops σ o = false := by simpa using hw
 simp [hw'] at he ⊢
 exact ⟨he.2.2.symm, he.1, he.2.1⟩
theorem eff_comm {fn : FuncId} {ops : Array Oper} {oi oj : Oper} {σ : List AV} {h0 hj hi : H} {ai aj : AV} (hcls : clsOK (Bc C fn oj) (Bc C fn oi) = true)
  (hsite : Bc C fn oj = 2 → Bc C fn oi = 2 → Au fn oj.dst ≠ Au fn oi.dst)
  (hdom : Bc C fn oi = 1 → AH ops σ oi = true → ∀ sg g, BA (Az σ) oi.op = some (sg, g) → ∃ ob, h0.get sg g = some ob)
  (h1 : Cv C fn ops oj σ h0 = some (aj, hj)) (h2 : Cv C fn ops oi σ hj = some (ai, hi)) : ∃ hi', Cv C fn ops oi σ h0 = some (ai, hi') ∧ Cv C fn ops oj σ hi' = some (aj, hi) := by
 obtain ⟨i0, i2, i1⟩ := eff_cls (C := C) (fn := fn) (ops := ops) (o := oi) σ
 obtain ⟨j0, j2, j1⟩ := eff_cls (C := C) (fn := fn) (ops := ops) (o := oj) σ
 by_cases hi04 : Bc C fn oi = 0 ∨ Bc C fn oi = 4 ∨ Bc C fn oi = 6
 ·obtain ⟨rfl, k⟩ := eff_id hi04 h2
  exact ⟨h0, k h0, h1⟩
 by_cases hj04 : Bc C fn oj = 0 ∨ Bc C fn oj = 4 ∨ Bc C fn oj = 6
 ·obtain ⟨rfl, k⟩ := eff_id hj04 h1
  exact ⟨hi, h2, k hi⟩
 have hij : (Bc C fn oj = 5 ∧ (Bc C fn oi = 1 ∨ Bc C fn oi = 2)) ∨ (Bc C fn oi = 5 ∧ (Bc C fn oj = 1 ∨ Bc C fn oj = 2)) ∨ ((Bc C fn oi = 1 ∨ Bc C fn oi = 2) ∧ (Bc C fn oj = 1 ∨ Bc C fn oj = 2)) := by
  have : Bc C fn oi ≤ 6 := cls_le
  have : Bc C fn oj ≤ 6 := cls_le
  simp [clsOK] at hcls
  omega
 rcases hij with ⟨h5, hci⟩ | ⟨h5, hcj⟩ | ⟨hci, hcj⟩
 ·obtain ⟨g, hg⟩ := eff_tok5 (C := C) (fn := fn) (ops := ops) (o := oj) σ h5
  rw [hg] at h1
  cases eg : g h0.toks with
  | none => simp [eg] at h1
  | some p =>
   obtain ⟨a, tk⟩ := p
   rw [eg] at h1
   simp at h1
   obtain ⟨rfl, rfl⟩ := h1
   obtain ⟨t1, t2⟩ := eff_tok (C := C) (fn := fn) (ops := ops) (o := oi) σ hci h0 tk
   rw [t1] at h2
   cases e : Cv C fn ops oi σ h0 with
   | none => simp [e] at h2
   | some q =>
    obtain ⟨b, h'⟩ := q
    rw [e] at h2
    simp at h2
    obtain ⟨rfl, rfl⟩ := h2
    refine ⟨h', rfl, ?_⟩
    rw [hg, t2 _ _ e, eg]; rfl
 ·obtain ⟨g, hg⟩ := eff_tok5 (C := C) (fn := fn) (ops := ops) (o := oi) σ h5
  rw [hg] at h2
  cases eg : g hj.toks with
  | none => simp [eg] at h2
  | some p =>
   obtain ⟨a, tk⟩ := p
   rw [eg] at h2
   simp at h2
   obtain ⟨rfl, rfl⟩ := h2
   obtain ⟨t1, t2⟩ := eff_tok (C := C) (fn := fn) (ops := ops) (o := oj) σ hcj h0 tk
   refine ⟨{ h0 with toks := tk }, ?_, ?_⟩
   ·rw [hg, ← t2 _ _ h1, eg]; rfl
   ·rw [t1, h1]; rfl
 have unw : ∀ (o : Oper) (g1 g2 : H) (a : AV) (g1' : H), AH ops σ o ≠ true → Cv C fn ops o σ g1 = some (a, g1') → g1' = g1 ∧ Cv C fn ops o σ g2 = some (a, g2) := by
  intro o g1 g2 a g1' hw he
  unfold Cv at he ⊢
  have hw' : AH ops σ o = false := by simpa using hw
  simp [hw'] at he ⊢
  exact ⟨he.2.2.symm, he.1, he.2.1⟩
 rcases hcj with hcj | hcj <;> rcases hci with hci | hci
 ·
  obtain ⟨rfl, _⟩ := (j1 hcj).2 _ _ _ h1
  obtain ⟨rfl, _⟩ := (i1 hci).2 _ _ _ h2
  exact ⟨_, h2, h1⟩
 ·
  obtain ⟨rfl, hget⟩ := (j1 hcj).2 _ _ _ h1
  refine ⟨hi, h2, ?_⟩
  by_cases hw : AH ops σ oj = true
  ·have e : Cv C fn ops oj σ hi = (Cv C fn ops oj σ hj).map fun p => (p.1, hi) := by
    refine (j1 hcj).1 hj hi (fun sg g hm => ?_)
    have hne := hget hw sg g hm
    obtain ⟨f, hf⟩ := i2 hci
    rw [hf] at h2
    split at h2
    ·cases h2
    ·simp at h2; rw [h2.2]
    ·simp at h2
     rw [← h2.2]
     cases hg : hj.get sg g with
     | none => exact absurd hg hne
     | some ob => exact H.get_push_old hg
   rw [e, h1]; rfl
  ·exact (unw oj hj hi aj hj hw h1).2
 ·
  obtain ⟨rfl, _⟩ := (i1 hci).2 _ _ _ h2
  by_cases hw : AH ops σ oi = true
  ·have e : Cv C fn ops oi σ h0 = (Cv C fn ops oi σ hi).map fun p => (p.1, h0) := by
    refine (i1 hci).1 hi h0 (fun sg g hm => ?_)
    obtain ⟨ob, hob⟩ := hdom hci hw sg g hm
    obtain ⟨f, hf⟩ := j2 hcj
    rw [hf] at h1
    split at h1
    ·cases h1
    ·simp at h1; rw [h1.2]
    ·simp at h1
     rw [← h1.2, hob]
     exact (H.get_push_old hob).symm
   exact ⟨h0, by rw [e, h2]; rfl, h1⟩
  ·obtain ⟨_, e⟩ := unw oi hi h0 ai hi hw h2
   exact ⟨h0, e, h1⟩
 ·
  have hs := hsite hcj hci
  obtain ⟨f, hf⟩ := i2 hci
  obtain ⟨f', hf'⟩ := j2 hcj
  rw [hf] at h2
  rw [hf'] at h1
  cases f' with
  | none => simp at h1
  | some q =>
   cases f with
   | none => simp at h2
   | some p =>
    cases q with
    | inl a =>
     simp at h1
     obtain ⟨rfl, rfl⟩ := h1
     exact ⟨hi, by rw [hf]; exact h2, by rw [hf']⟩
    | inr mo =>
     obtain ⟨mk, ob⟩ := mo
     simp at h1
     obtain ⟨rfl, rfl⟩ := h1
     cases p with
     | inl a =>
      simp at h2
      obtain ⟨rfl, rfl⟩ := h2
      exact ⟨h0, by rw [hf], by rw [hf']⟩
     | inr mo' =>
      obtain ⟨mk', ob'⟩ := mo'
      simp at h2
      obtain ⟨rfl, rfl⟩ := h2
      refine ⟨h0.push (Au fn oi.dst) ob', ?_, ?_⟩
      ·rw [hf]
       simp [H.count_push_other _ _ _ _ hs.symm]
      ·rw [hf']
       simp [H.count_push_other _ _ _ _ hs, H.push_comm _ _ _ _ _ hs]
theorem heap_comm {fn : FuncId} {ops : Array Oper} {oi oj : Oper} {σ : List AV} {h0 hj hi : H} {ai aj : AV} (hcls : clsOK (Bc C fn oj) (Bc C fn oi) = true)
  (hsite : Bc C fn oj = 2 → Bc C fn oi = 2 → Au fn oj.dst ≠ Au fn oi.dst)
  (hdom : Bc C fn oi = 1 → AH ops σ oi = true → ∀ sg g, BA (Az σ) oi.op = some (sg, g) → ∃ ob, h0.get sg g = some ob)
  (h1 : EffR C fn ops oj σ h0 aj hj) (h2 : EffR C fn ops oi σ hj ai hi) : ∃ hi', EffR C fn ops oi σ h0 ai hi' ∧ EffR C fn ops oj σ hi' aj hi := by
 rcases h1 with h1 | ⟨c1, w1, b1⟩
 ·rcases h2 with h2 | ⟨c2, w2, b2⟩
  ·obtain ⟨hi', q1, q2⟩ := eff_comm hcls hsite hdom h1 h2
   exact ⟨hi', .inl q1, .inl q2⟩
  ·rcases c2 with c2 | ⟨c2, hk⟩
   ·have hj0 : Bc C fn oj = 0 := by
     rw [c2] at hcls
     simp [clsOK] at hcls
     exact hcls
    obtain ⟨rfl, k⟩ := eff_id (.inl hj0) h1
    exact ⟨hi, .inr ⟨.inl c2, w2, b2⟩, .inl (k hi)⟩
   ·have hjc : Bc C fn oj = 0 ∨ Bc C fn oj = 4 ∨ Bc C fn oj = 1 := by
     rw [c2] at hcls
     simp [clsOK] at hcls
     omega
    by_cases hj1 : Bc C fn oj = 1
    ·obtain ⟨j1, j2⟩ := (eff_cls (C := C) (fn := fn) (ops := ops) (o := oj) σ).2.2 hj1
     obtain ⟨rfl, hget⟩ := j2 _ _ _ h1
     refine ⟨hi, .inr ⟨.inr ⟨c2, hk⟩, w2, b2⟩, .inl ?_⟩
     by_cases hw : AH ops σ oj = true
     ·rw [j1 hj hi (fun s g hm => by
       cases e : hj.get s g with
       | none => exact absurd e (hget hw s g hm)
       | some ob => exact hk s g ob e), h1]
      rfl
     ·exact (eff_unw oj hj hi aj hj hw h1).2
    ·obtain ⟨rfl, k⟩ := eff_id (by omega) h1
     exact ⟨hi, .inr ⟨.inr ⟨c2, hk⟩, w2, b2⟩, .inl (k hi)⟩
 ·rcases h2 with h2 | ⟨c2, _, _⟩
  ·rcases c1 with c1 | ⟨c1, hk⟩
   ·have hi0 : Bc C fn oi = 0 := by
     rw [c1] at hcls
     simp [clsOK] at hcls
     exact hcls
    obtain ⟨rfl, k⟩ := eff_id (.inl hi0) h2
    exact ⟨h0, .inl (k h0), .inr ⟨.inl c1, w1, b1⟩⟩
   ·have hi' : Bc C fn oi = 0 ∨ Bc C fn oi = 4 ∨ Bc C fn oi = 1 := by
     rw [c1] at hcls
     simp [clsOK] at hcls
     omega
    by_cases hi1 : Bc C fn oi = 1
    ·obtain ⟨j1, j2⟩ := (eff_cls (C := C) (fn := fn) (ops := ops) (o := oi) σ).2.2 hi1
     obtain ⟨rfl, hget⟩ := j2 _ _ _ h2
     refine ⟨h0, .inl ?_, .inr ⟨.inr ⟨c1, hk⟩, w1, b1⟩⟩
     by_cases hw : AH ops σ oi = true
     ·rw [j1 hi h0 (fun s g hm => by
       obtain ⟨ob, hob⟩ := hdom hi1 hw s g hm
       rw [hob]
       exact (hk s g ob hob).symm), h2]
      rfl
     ·exact (eff_unw oi hi h0 ai hi hw h2).2
    ·obtain ⟨rfl, k⟩ := eff_id (by omega) h2
     exact ⟨h0, .inl (k h0), .inr ⟨.inr ⟨c1, hk⟩, w1, b1⟩⟩
  ·exfalso
   rcases c1 with c1 | ⟨c1, _⟩ <;> rcases c2 with c2 | ⟨c2, _⟩ <;> rw [c1, c2] at hcls <;> simp [clsOK] at hcls
theorem byVal_main {fn : FuncId} {ops : Array Oper} {o : Oper} {σ : List AV} {s g : Nat} (hc : Bc C fn o = 1) (hb : byVal C fn ops σ o = true) (hm : BA (Az σ) o.op = some (s, g)) : s ∉ storeSites C fn ops ∨ ∃ e, readVar ops o = some e ∧ s = A1 fn e := by
 unfold byVal at hb
 split at hb
 ·rename_i f args ats hop
  simp only [Bc, hop] at hc
  split at hc
  ·cases hc
  ·split at hc
   ·cases hc
   ·split at hc <;> cases hc
 ·rename_i args ats hop
  simp only [Bc, hop] at hc
  split at hc
  ·cases hc
  ·split at hc <;> cases hc
 ·rename_i rv m args ats hop
  simp only [Bc, hop] at hc
  split at hc <;> cases hc
 ·rename_i t a v hop
  simp [Bc, hop, Bz] at hc
 ·rw [hm] at hb
  simp only [Bool.or_eq_true, Bool.not_eq_true'] at hb
  rcases hb with hb | hb
  ·left; simpa using hb
  ·right
   split at hb
   ·rename_i e he
    exact ⟨e, he, by simpa using hb⟩
   ·cases hb
theorem insens {fn : FuncId} {ops : Array Oper} {o : Oper} {σ : List AV} {sS : Nat} (hmem : sS ∈ storeSites C fn ops) (hrd : ∀ e, readVar ops o = some e → A1 fn e ≠ sS) (hc : Bc C fn o ≠ 3 ∧ Bc C fn o ≠ 6) (h2 : Bc C fn o = 2 → Au fn o.dst ≠ sS) :
  (∀ (h hx : H) (a : AV), Cv C fn ops o σ h = some (a, hx) → (∀ g, hx.get sS g = h.get sS g) ∧ ∀ g ob, Cv C fn ops o σ (h.set sS g ob) = some (a, hx.set sS g ob)) ∧
  (∀ (h hy : H) (a : AV) (g : Nat) (ob : AO), Cv C fn ops o σ (h.set sS g ob) = some (a, hy) → ∃ hx, Cv C fn ops o σ h = some (a, hx) ∧ hy = hx.set sS g ob) := by
 obtain ⟨i0, i2, i1⟩ := eff_cls (C := C) (fn := fn) (ops := ops) (o := o) σ
 have hle : Bc C fn o ≤ 6 := cls_le
 have hcase : (Bc C fn o = 0 ∨ Bc C fn o = 4) ∨ Bc C fn o = 1 ∨ Bc C fn o = 2 ∨ Bc C fn o = 5 := by omega
 rcases hcase with c | c | c | c
 ·have e := i0 c
  refine ⟨fun h hx a he => ?_, fun h hy a g ob he => ?_⟩
  ·rw [e] at he
   cases e1 : Cv C fn ops o σ {} with
   | none => simp [e1] at he
   | some p =>
    rw [e1] at he
    simp at he
    obtain ⟨rfl, rfl⟩ := he
    exact ⟨fun g => rfl, fun g ob => by rw [e, e1]; rfl⟩
  ·rw [e] at he
   cases e1 : Cv C fn ops o σ {} with
   | none => simp [e1] at he
   | some p =>
    rw [e1] at he
    simp at he
    obtain ⟨rfl, rfl⟩ := he
    exact ⟨h, by rw [e, e1]; rfl, rfl⟩
 ·obtain ⟨j1, j2⟩ := i1 c
  have hmn : ∀ h a hx, Cv C fn ops o σ h = some (a, hx) → AH ops σ o = true → ∀ s g, BA (Az σ) o.op = some (s, g) → s ≠ sS := by
   intro h a hx he hw s g hm hs
   subst hs
   unfold Cv at he
   split at he
   ·rename_i hb
    rw [hw] at hb
    simp only [Bool.not_true, Bool.false_or] at hb
    rcases byVal_main c hb hm with q | ⟨e, q1, q2⟩
    ·exact q hmem
    ·exact hrd e q1 q2.symm
   ·cases he
  have unw : AH ops σ o ≠ true → ∀ (g1 g2 : H) (a : AV) (g1' : H), Cv C fn ops o σ g1 = some (a, g1') → Cv C fn ops o σ g2 = some (a, g2) := by
   intro hw g1 g2 a g1' he
   unfold Cv at he ⊢
   have hw' : AH ops σ o = false := by simpa using hw
   simp [hw'] at he ⊢
   exact ⟨he.1, he.2.1⟩
  refine ⟨fun h hx a he => ?_, fun h hy a g ob he => ?_⟩
  ·obtain ⟨rfl, _⟩ := j2 _ _ _ he
   refine ⟨fun g => rfl, fun g ob => ?_⟩
   by_cases hw : AH ops σ o = true
   ·rw [j1 hx (hx.set sS g ob) fun s g' hm => H.get_set_site _ _ _ _ _ _ (hmn _ _ _ he hw s g' hm), he]; rfl
   ·exact unw hw _ _ _ _ he
  ·obtain ⟨rfl, _⟩ := j2 _ _ _ he
   refine ⟨h, ?_, rfl⟩
   by_cases hw : AH ops σ o = true
   ·rw [j1 (h.set sS g ob) h fun s g' hm => (H.get_set_site _ _ _ _ _ _ (hmn _ _ _ he hw s g' hm)).symm, he]; rfl
   ·exact unw hw _ _ _ _ he
 ·obtain ⟨f, hf⟩ := i2 c
  have hn := h2 c
  refine ⟨fun h hx a he => ?_, fun h hy a g ob he => ?_⟩
  ·rw [hf] at he
   cases f with
   | none => cases he
   | some q =>
    cases q with
    | inl b =>
     simp at he
     obtain ⟨rfl, rfl⟩ := he
     exact ⟨fun g => rfl, fun g ob => by rw [hf]⟩
    | inr mo =>
     obtain ⟨mk, ob2⟩ := mo
     simp at he
     obtain ⟨rfl, rfl⟩ := he
     exact ⟨fun g => H.get_push_site _ _ _ _ _ hn.symm, fun g ob => by rw [hf]; simp [H.set_push_comm _ _ _ _ _ _ hn.symm]⟩
  ·rw [hf] at he
   cases f with
   | none => cases he
   | some q =>
    cases q with
    | inl b =>
     simp at he
     obtain ⟨rfl, rfl⟩ := he
     exact ⟨h, by rw [hf], rfl⟩
    | inr mo =>
     obtain ⟨mk, ob2⟩ := mo
     simp at he
     obtain ⟨rfl, rfl⟩ := he
     exact ⟨h.push (Au fn o.dst) ob2, by rw [hf], H.set_push_comm _ _ _ _ _ _ hn.symm⟩
 ·obtain ⟨f, hf⟩ := eff_tok5 (C := C) (fn := fn) (ops := ops) (o := o) σ c
  refine ⟨fun h hx a he => ?_, fun h hy a g ob he => ?_⟩
  ·rw [hf] at he
   cases e1 : f h.toks with
   | none => simp [e1] at he
   | some p =>
    rw [e1] at he
    simp at he
    obtain ⟨rfl, rfl⟩ := he
    exact ⟨fun g => rfl, fun g ob => by rw [hf, show (h.set sS g ob).toks = h.toks from rfl, e1]; rfl⟩
  ·rw [hf, show (h.set sS g ob).toks = h.toks from rfl] at he
   cases e1 : f h.toks with
   | none => simp [e1] at he
   | some p =>
    rw [e1] at he
    simp at he
    obtain ⟨rfl, rfl⟩ := he
    exact ⟨{ h with toks := p.2 }, by rw [hf, e1]; rfl, rfl⟩
theorem fresh_eff {fn : FuncId} {ops : Array Oper} {o : Oper} {d : Nat} {σ : List AV} {h h1 : H} {a : AV} (hf : B0 C fn ops o = some d) (he : EffR C fn ops o σ h a h1) : Cv C fn ops o σ h = some (a, h1) := by
 rcases he with he | ⟨_, _, hb⟩
 ·exact he
 ·obtain ⟨t, av, x, hop, _⟩ := fresh_op hf
  cases hb with
  | call c f g first cap hop' => rw [hop] at hop'; cases hop'
  | yld c f ys yg hop' => rw [hop] at hop'; cases hop'
  | inv c rv m g recv hop' => rw [hop] at hop'; cases hop'
theorem plain_eff {fn : FuncId} {ops : Array Oper} {o : Oper} {σ : List AV} {h h1 : H} {a : AV} (hc : Bc C fn o ≠ 3 ∧ Bc C fn o ≠ 6) (he : EffR C fn ops o σ h a h1) : Cv C fn ops o σ h = some (a, h1) := by
 rcases he with he | ⟨c, _, _⟩
 ·exact he
 ·rcases c with c | ⟨c, _⟩
  ·exact absurd c hc.1
  ·exact absurd c hc.2
theorem site_dst {fn : FuncId} {dst : Option Tmp} {d : Nat} (h : dst ≠ some d) (hd : d < 8000) : Au fn dst ≠ A1 fn d := by
 cases dst with
 | none => simp only [Au, A1]; omega
 | some e =>
  intro hh
  exact h (by rw [show e = d from Nat.add_left_cancel hh])
theorem heap_commK {fn : FuncId} {ops : Array Oper} {oi oj : Oper} {σ : List AV} {h0 hj hi : H} {ai aj : AV} (hok : okPair C fn ops oj oi = true)
  (hmi : ∀ d, B0 C fn ops oi = some d → A1 fn d ∈ storeSites C fn ops ∧ d < 8000)
  (hmj : ∀ d, B0 C fn ops oj = some d → A1 fn d ∈ storeSites C fn ops ∧ d < 8000)
  (hsite : Bc C fn oj = 2 → Bc C fn oi = 2 → Au fn oj.dst ≠ Au fn oi.dst)
  (hdom : Bc C fn oi = 1 → AH ops σ oi = true → ∀ sg g, BA (Az σ) oi.op = some (sg, g) → ∃ ob, h0.get sg g = some ob)
  (h1 : EffR C fn ops oj σ h0 aj hj) (h2 : EffR C fn ops oi σ hj ai hi) : ∃ hi', EffR C fn ops oi σ h0 ai hi' ∧ EffR C fn ops oj σ hi' aj hi := by
 unfold okPair at hok
 split at hok
 ·rename_i d e hd he
  have hne : d ≠ e := by simpa using hok
  have e1 := fresh_eff hd h1
  have e2 := fresh_eff he h2
  have hs : A1 fn d ≠ A1 fn e := by unfold A1; omega
  rcases eff_store hd e1 with ⟨rfl, k1⟩ | ⟨gj, oj1, oj2, a1, rfl, k1⟩
  ·exact ⟨hi, .inl e2, .inl (k1 _)⟩
  ·rcases eff_store he e2 with ⟨rfl, k2⟩ | ⟨gi, oi1, oi2, a2, rfl, k2⟩
   ·exact ⟨h0, .inl (k2 _), .inl (k1 _ a1)⟩
   ·rw [H.get_set_site _ _ _ _ _ _ hs.symm] at a2
    refine ⟨_, .inl (k2 _ a2), .inl ?_⟩
    rw [k1 _ (by rw [H.get_set_site _ _ _ _ _ _ hs]; exact a1), H.set_comm _ _ _ _ _ _ _ hs]
 ·rename_i d hd hn
  have hc : Bc C fn oi ≠ 3 ∧ Bc C fn oi ≠ 6 := by simp at hok; exact hok.1.1
  have hdst : oi.dst ≠ some d := by simp at hok; exact hok.2
  have hrv : ∀ e, readVar ops oi = some e → A1 fn e ≠ A1 fn d := by
   simp at hok
   intro e he hs
   have : e = d := Nat.add_left_cancel hs
   subst this
   exact hok.1.2 he
  have e1 := fresh_eff hd h1
  have e2 := plain_eff hc h2
  obtain ⟨hm, hd8⟩ := hmj d hd
  have hs : Bc C fn oi = 2 → Au fn oi.dst ≠ A1 fn d := fun _ => site_dst hdst hd8
  rcases eff_store hd e1 with ⟨rfl, k1⟩ | ⟨gj, oj1, oj2, a1, rfl, k1⟩
  ·exact ⟨hi, .inl e2, .inl (k1 _)⟩
  ·obtain ⟨hx, q1, rfl⟩ := (insens hm hrv hc hs).2 _ _ _ _ _ e2
   refine ⟨hx, .inl q1, .inl (k1 _ ?_)⟩
   rw [((insens hm hrv hc hs).1 _ _ _ q1).1]; exact a1
 ·rename_i d hn hd
  have hc : Bc C fn oj ≠ 3 ∧ Bc C fn oj ≠ 6 := by simp at hok; exact hok.1.1
  have hdst : oj.dst ≠ some d := by simp at hok; exact hok.2
  have hrv : ∀ e, readVar ops oj = some e → A1 fn e ≠ A1 fn d := by
   simp at hok
   intro e he hs
   have : e = d := Nat.add_left_cancel hs
   subst this
   exact hok.1.2 he
  have e1 := plain_eff hc h1
  have e2 := fresh_eff hd h2
  obtain ⟨hm, hd8⟩ := hmi d hd
  have hs : Bc C fn oj = 2 → Au fn oj.dst ≠ A1 fn d := fun _ => site_dst hdst hd8
  obtain ⟨p1, p2⟩ := (insens hm hrv hc hs).1 _ _ _ e1
  rcases eff_store hd e2 with ⟨rfl, k2⟩ | ⟨gi, oi1, oi2, a2, rfl, k2⟩
  ·exact ⟨h0, .inl (k2 _), .inl e1⟩
  ·rw [p1] at a2
   exact ⟨_, .inl (k2 _ a2), .inl (p2 _ _)⟩
 ·exact heap_comm hok hsite hdom h1 h2
theorem put_get {s : St} {dst : Option Tmp} {a : AV} {h : H} {l : List Nat} (hd : (match dst with | some d => !l.contains d | none => true) = true) : ∀ t ∈ l, (s.put dst a h).σ[t]? = s.σ[t]? := by
 intro t ht
 cases dst with
 | none => rfl
 | some d =>
  simp only [St.put, List.getElem?_set]
  rw [if_neg]
  rintro rfl
  simp at hd
  exact hd ht
theorem fresh_mem {fn : FuncId} {ops : Array Oper} {o : Oper} {i d : Nat} (ho : ops[i]? = some o) (hf : B0 C fn ops o = some d) : A1 fn d ∈ storeSites C fn ops := by
 unfold storeSites
 exact List.mem_filterMap.2 ⟨o, by simpa using Array.mem_of_getElem? ho, by rw [hf]; rfl⟩
theorem fresh_lt {fn : FuncId} {ops : Array Oper} {o : Oper} {d : Nat} (hf : B0 C fn ops o = some d) : d < 8000 := by
 obtain ⟨t, a, v, hop, hd⟩ := fresh_op hf
 exact hd
theorem step_comm {fn : FuncId} {ops : Array Oper} {i j : Nat} {oi oj : Oper} {s s1 s2 : St} (hoj : ops[j]? = some oj) (hoi : ops[i]? = some oi) (hind : indep C fn ops oj oi = true)
  (h1 : StepR C fn ops j s s1) (h2 : StepR C fn ops i s1 s2) (hdom : Dom C fn ops oi s) : (∃ s1', StepR C fn ops i s s1' ∧ StepR C fn ops j s1' s2) := by
 unfold indep at hind
 simp only [Bool.and_eq_true] at hind
 obtain ⟨⟨⟨d1, d2⟩, d3⟩, d4⟩ := hind
 obtain ⟨aj, hj, e1, rfl⟩ := (StepR_iff hoj).1 h1
 obtain ⟨ai, hi, e2, rfl⟩ := (StepR_iff hoi).1 h2
 rw [put_h] at e2
 have e2' := e2.congr (put_get d1)
 have hsite : Bc C fn oj = 2 → Bc C fn oi = 2 → Au fn oj.dst ≠ Au fn oi.dst := by
  intro c1 c2
  refine siteOf_ne ?_
  simp [c1, c2] at d3
  simpa using d3
 obtain ⟨hi', q1, q2⟩ := heap_commK d4 (fun d hf => ⟨fresh_mem hoi hf, fresh_lt hf⟩) (fun d hf => ⟨fresh_mem hoj hf, fresh_lt hf⟩) hsite hdom e1 e2'
 refine ⟨s.put oi.dst ai hi', (StepR_iff hoi).2 ⟨ai, hi', q1, rfl⟩, (StepR_iff hoj).2 ⟨aj, hi, ?_, ?_⟩⟩
 ·rw [put_h]
  exact q2.congr fun t ht => (put_get d2 t ht).symm
 ·cases hd1 : oi.dst with
  | none => cases hd2 : oj.dst <;> rfl
  | some d =>
   cases hd2 : oj.dst with
   | none => rfl
   | some e =>
    have hne : e ≠ d := by
     rw [hd1, hd2] at d3
     simp at d3
     exact d3
    simp only [St.put]
    rw [List.set_comm _ _ (fun h => hne h.symm)]
theorem Dom.step {fn : FuncId} {ops : Array Oper} {j : Nat} {oi oj : Oper} {s s1 : St} (hoj : ops[j]? = some oj) (hind : indep C fn ops oj oi = true) (h1 : StepR C fn ops j s s1) (hd : Dom C fn ops oi s) : Dom C fn ops oi s1 := by
 unfold indep at hind
 simp only [Bool.and_eq_true] at hind
 obtain ⟨⟨⟨d1, d2⟩, d3⟩, d4⟩ := hind
 obtain ⟨aj, hj, e1, rfl⟩ := (StepR_iff hoj).1 h1
 have r1 : ∀ t ∈ readsOf ops oi, s.σ[t]? = (s.put oj.dst aj hj).σ[t]? := fun t ht => (put_get d1 t ht).symm
 intro hc hw sg g hm
 have hops : ∀ x ∈ oi.op.operands, Az s.σ x = Az (s.put oj.dst aj hj).σ x := fun x hx => evalA_congr (l := oi.op.operands.toList) (fun t ht => r1 t (List.mem_append_left _ ht)) x (by simpa using hx)
 have hw' : AH ops s.σ oi = true := by rw [wantedA_congr r1]; exact hw
 have hm' : BA (Az s.σ) oi.op = some (sg, g) := by
  rw [← hm]
  unfold BA
  cases hop : oi.op <;> simp only [hop, Op.operands, Call.operands] at hops ⊢
  case load t a => rw [hops a (by simp)]
  case lookup t m k ok => rw [hops m (by simp)]
  case call c =>
   obtain ⟨cal, args, ats⟩ := c
   simp only
   split
   ·rename_i x hx
    rw [hops x (by
     simp only [Array.mem_append]
     exact .inr (by rw [← Array.mem_toList_iff, hx]; simp))]
   ·rfl
 obtain ⟨ob, hob⟩ := hd hc hw' sg g hm'
 rw [put_h]
 have hnf : B0 C fn ops oi = none := by
  cases hf : B0 C fn ops oi with
  | none => rfl
  | some e =>
   obtain ⟨t, av, v, hop, _⟩ := fresh_op hf
   simp [Bc, hop, Bz] at hc
 cases hfj : B0 C fn ops oj with
 | some e =>
  rcases eff_store hfj (fresh_eff hfj e1) with ⟨rfl, _⟩ | ⟨g', o1, o2, a1, rfl, _⟩
  ·exact ⟨ob, hob⟩
  ·by_cases hs : sg = A1 fn e ∧ g = g'
   ·obtain ⟨rfl, rfl⟩ := hs
    exact ⟨o2, H.get_set_same a1⟩
   ·exact ⟨ob, by rw [H.get_set_other _ _ _ _ _ _ (H.get_lt a1) hs]; exact hob⟩
 | none =>
 simp only [okPair, hnf, hfj] at d4
 rcases e1 with e1 | ⟨c3, _, _⟩
 ·obtain ⟨j0, j2, j1⟩ := eff_cls (C := C) (fn := fn) (ops := ops) (o := oj) s.σ
  by_cases c6 : Bc C fn oj = 6
  ·obtain ⟨rfl, _⟩ := eff_6 c6 e1
   exact ⟨ob, hob⟩
  have hcj : Bc C fn oj = 0 ∨ Bc C fn oj = 1 ∨ Bc C fn oj = 2 ∨ Bc C fn oj = 4 ∨ Bc C fn oj = 5 := by
   have : Bc C fn oj ≤ 6 := cls_le
   simp [clsOK, hc] at d4
   omega
  have case0 : (∀ h, Cv C fn ops oj s.σ h = (Cv C fn ops oj s.σ {}).map fun p => (p.1, h)) → ∃ ob, hj.get sg g = some ob := by
   intro j0
   rw [j0] at e1
   cases e : Cv C fn ops oj s.σ {} with
   | none => simp [e] at e1
   | some p =>
    rw [e] at e1
    simp at e1
    rw [← e1.2]; exact ⟨ob, hob⟩
  rcases hcj with c | c | c | c | c
  ·exact case0 (j0 (.inl c))
  ·obtain ⟨rfl, _⟩ := (j1 c).2 _ _ _ e1
   exact ⟨ob, hob⟩
  ·obtain ⟨f, hf⟩ := j2 c
   rw [hf] at e1
   split at e1
   ·cases e1
   ·simp at e1; rw [← e1.2]; exact ⟨ob, hob⟩
   ·simp at e1; rw [← e1.2]; exact ⟨ob, H.get_push_old hob⟩
  ·exact case0 (j0 (.inr c))
  ·obtain ⟨g, hg⟩ := eff_tok5 (C := C) (fn := fn) (ops := ops) (o := oj) s.σ c
   rw [hg] at e1
   cases eg : g s.h.toks with
   | none => simp [eg] at e1
   | some p =>
    rw [eg] at e1
    simp at e1
    rw [← e1.2]; exact ⟨ob, hob⟩
 ·rcases c3 with c3 | ⟨c3, hk⟩
  ·rw [c3, hc] at d4
   simp [clsOK] at d4
  ·exact ⟨ob, hk _ _ _ hob⟩
theorem bubble {fn : FuncId} {ops : Array Oper} {i : Nat} {oi : Oper} {s' : St} {L2 : List Nat} (hoi : ops[i]? = some oi) : ∀ (L1 : List Nat) (s : St), (∀ j ∈ L1, ∃ oj, ops[j]? = some oj ∧ indep C fn ops oj oi = true) →
  ExecR C fn ops (L1 ++ i :: L2) s s' → Dom C fn ops oi s → ∃ s1, StepR C fn ops i s s1 ∧ ExecR C fn ops (L1 ++ L2) s1 s'
 | [], s, hj, he, hd => by
  simp only [List.nil_append] at he ⊢
  cases he with
  | cons _ _ _ s1 _ h1 h2 => exact ⟨s1, h1, h2⟩
 | j :: L1, s, hj, he, hd => by
  simp only [List.cons_append] at he ⊢
  obtain ⟨oj, hoj, hind⟩ := hj j (by simp)
  cases he with
  | cons _ _ _ sj _ h1 h2 =>
   obtain ⟨s1, q1, q2⟩ := bubble hoi L1 sj (fun k hk => hj k (by simp [hk])) h2 (hd.step hoj hind h1)
   obtain ⟨s1', r1, r2⟩ := step_comm hoj hoi hind h1 q1 hd
   exact ⟨s1', r1, .cons _ _ _ _ _ r2 q2⟩
end Go.Ev
namespace Go.Ev
open Go Go.RowKit
variable {C : Ctx} {B : Nat} {K : List Nat} {gh : Gh} {h : H} {w : World}
theorem inner_bit (acc : Array Nat) (j : Nat) : ∀ (l : List Edge) (s : Nat), (l.foldl (fun s e => if Region.binds .any e then s ||| 2 ^ e.on ||| acc.getD e.on 0 else s) s).testBit j = true →
  s.testBit j = true ∨ ∃ e ∈ l, Region.binds .any e = true ∧ (e.on = j ∨ (acc.getD e.on 0).testBit j = true)
 | [], s, h => .inl h
 | e :: l, s, h => by
  simp only [List.foldl_cons] at h
  rcases inner_bit acc j l _ h with h | ⟨x, hx, h⟩
  ·split at h
   ·rename_i hb
    simp only [Nat.testBit_or, Bool.or_eq_true] at h
    rcases h with (h | h) | h
    ·exact .inl h
    ·rw [Nat.testBit_two_pow] at h
     exact .inr ⟨e, by simp, hb, .inl (by simpa using h)⟩
    ·exact .inr ⟨e, by simp, hb, .inr h⟩
   ·exact .inl h
  ·exact .inr ⟨x, by simp [hx], h⟩
def Closed (ops : Array Oper) (S : Nat → Prop) : Prop := ∀ (i : Nat) (o : Oper), ops[i]? = some o → S i → ∀ e ∈ o.after.toList, Region.binds .any e = true → S e.on
def preds (ops : Array Oper) (S : Nat → Prop) (i : Nat) : Prop := ∀ o, ops[i]? = some o → ∀ e ∈ o.after.toList, Region.binds .any e = true → S e.on
theorem fold_bits (ops : Array Oper) {S : Nat → Prop} (hS : Closed ops S) : ∀ (l : List Oper) (pre : List Oper) (acc : Array Nat), ops.toList = pre ++ l → acc.size = pre.length →
  (∀ k j, (acc.getD k 0).testBit j = true → preds ops S k → S j) →
  ∀ k j, ((l.foldl (fun acc o => acc.push (o.after.foldl (fun s e => if Region.binds .any e then s ||| 2 ^ e.on ||| acc.getD e.on 0 else s) 0)) acc).getD k 0).testBit j = true → preds ops S k → S j
 | [], pre, acc, he, hn, hacc, k, j, hb, hp => hacc k j hb hp
 | o :: l, pre, acc, he, hn, hacc, k, j, hb, hp => by
  simp only [List.foldl_cons] at hb
  refine fold_bits ops hS l (pre ++ [o]) _ (by simp [he]) (by simp [hn]) ?_ k j hb hp
  intro k j hb hp
  by_cases hk : k = acc.size
  ·subst hk
   have e1 : (acc.push (o.after.foldl (fun s e => if Region.binds .any e then s ||| 2 ^ e.on ||| acc.getD e.on 0 else s) 0)).getD acc.size 0 = o.after.foldl (fun s e => if Region.binds .any e then s ||| 2 ^ e.on ||| acc.getD e.on 0 else s) 0 := by
    simp [Array.getD]
   rw [e1, ← Array.foldl_toList] at hb
   have ho : ops[acc.size]? = some o := by
    rw [← Array.getElem?_toList, he, hn, List.getElem?_append_right (Nat.le_refl _)]; simp
   rcases inner_bit acc j _ _ hb with hb | ⟨e, hm, hbn, hb⟩
   ·simp at hb
   ·have hs := hp o ho e hm hbn
    rcases hb with rfl | hb
    ·exact hs
    ·exact hacc e.on j hb (fun o' ho' e' hm' hb' => hS e.on o' ho' hs e' hm' hb')
  ·refine hacc k j ?_ hp
   by_cases hk2 : k < acc.size
   ·have e1 : (acc.push (o.after.foldl (fun s e => if Region.binds .any e then s ||| 2 ^ e.on ||| acc.getD e.on 0 else s) 0)).getD k 0 = acc.getD k 0 := by
     have : k < acc.size + 1 := by omega
     simp [Array.getD, hk2, this, Array.getElem_push_lt hk2]
    rw [e1] at hb; exact hb
   ·have e1 : (acc.push (o.after.foldl (fun s e => if Region.binds .any e then s ||| 2 ^ e.on ||| acc.getD e.on 0 else s) 0)).getD k 0 = 0 := by
     have : ¬ k < acc.size + 1 := by omega
     simp [Array.getD, this]
    rw [e1] at hb; simp at hb
theorem before_bit (ops : Array Oper) {S : Nat → Prop} (hS : Closed ops S) (k j : Nat) (hb : ((Region.before ops).getD k 0).testBit j = true) (hp : preds ops S k) : S j := by
 unfold Region.before at hb
 rw [← Array.foldl_toList] at hb
 exact fold_bits ops hS ops.toList [] #[] rfl rfl (fun k j h _ => by simp at h) k j hb hp
def rem (ops : Array Oper) (listed : Array Bool) : List Nat := (List.range ops.size).filter fun i => !listed.getD i true
def LS (listed : Array Bool) (i : Nat) : Prop := listed[i]? = some true
theorem rem_nodup (ops : Array Oper) (listed : Array Bool) : (rem ops listed).Nodup := List.Pairwise.filter _ List.nodup_range
theorem rem_lt (ops : Array Oper) (listed : Array Bool) : (rem ops listed).Pairwise (· < ·) := List.Pairwise.filter _ List.pairwise_lt_range
theorem drawOK_back {fn : FuncId} {ops : Array Oper} (hd : drawOK C fn ops = true) {i : Nat} {o : Oper} (ho : ops[i]? = some o) {e : Edge} (he : e ∈ o.after.toList) (hb : Region.binds .any e = true) : e.on < i := by
 unfold drawOK at hd
 simp only [Bool.and_eq_true, List.all_eq_true] at hd
 have h1 := hd.1 (o, i) (by
  rw [List.mem_zipIdx_iff_getElem?]
  simpa using ho) e he
 simp [hb] at h1
 exact h1
theorem drawOK_indep {fn : FuncId} {ops : Array Oper} (hd : drawOK C fn ops = true) {i j : Nat} {oi oj : Oper} (hoi : ops[i]? = some oi) (hoj : ops[j]? = some oj) (hji : j < i) :
  ((Region.before ops).getD i 0).testBit j = true ∨ indep C fn ops oj oi = true := by
 unfold drawOK at hd
 simp only [Bool.and_eq_true, List.all_eq_true] at hd
 have hi : i < ops.size := (Array.getElem?_eq_some_iff.1 hoi).1
 have h1 := hd.2 i (by simp [hi]) j (by simp [hji])
 simp only [hoi, hoj, Bool.or_eq_true] at h1
 exact h1
theorem mem_rem {ops : Array Oper} {listed : Array Bool} (hn : listed.size = ops.size) {i : Nat} : i ∈ rem ops listed ↔ i < ops.size ∧ ¬ LS listed i := by
 unfold rem LS
 simp only [List.mem_filter, List.mem_range, Bool.not_eq_true']
 constructor
 ·rintro ⟨h1, h2⟩
  refine ⟨h1, ?_⟩
  have : i < listed.size := by omega
  simp [Array.getD, this] at h2
  simp [Array.getElem?_eq_getElem this, h2]
 ·rintro ⟨h1, h2⟩
  refine ⟨h1, ?_⟩
  have : i < listed.size := by omega
  simp [Array.getElem?_eq_getElem this] at h2
  simp [Array.getD, this, h2]
theorem mem_ready {ops : Array Oper} {listed : Array Bool} (hn : listed.size = ops.size) {i : Nat} : i ∈ Region.ready .any ops listed ↔ i ∈ rem ops listed ∧ preds ops (LS listed) i := by
 unfold Region.ready rem preds LS
 simp only [List.mem_filter, List.mem_range, Bool.and_eq_true, Bool.not_eq_true']
 constructor
 ·rintro ⟨h1, h2, h3⟩
  refine ⟨⟨h1, h2⟩, fun o ho e he hb => ?_⟩
  rw [ho] at h3
  simp at h3
  have he' : e ∈ o.after := by simpa using he
  rw [Array.mem_iff_getElem] at he'
  obtain ⟨k, hk, rfl⟩ := he'
  have h4 := h3 k hk
  rw [hb] at h4
  simp at h4
  cases hl : listed[o.after[k].on]? with
  | none => rw [hl] at h4; simp at h4
  | some b => rw [hl] at h4; simp at h4; rw [h4]
 ·rintro ⟨⟨h1, h2⟩, h3⟩
  refine ⟨h1, h2, ?_⟩
  have ho : ops[i]? = some ops[i] := Array.getElem?_eq_getElem h1
  rw [ho]
  simp
  intro k hk
  cases hb : Region.binds .any ops[i].after[k] with
  | false => simp
  | true =>
   have := h3 _ ho ops[i].after[k] (by simp) hb
   simp [this]
theorem rem_set {ops : Array Oper} {listed : Array Bool} (hn : listed.size = ops.size) {i : Nat} {L1 L2 : List Nat} (he : rem ops listed = L1 ++ i :: L2) : rem ops (listed.setIfInBounds i true) = L1 ++ L2 := by
 have hnd := rem_nodup ops listed
 rw [he] at hnd
 have hi : i ∈ rem ops listed := by rw [he]; simp
 have hlt : i < listed.size := by have := (mem_rem hn).1 hi; omega
 have e1 : rem ops (listed.setIfInBounds i true) = (rem ops listed).filter (· != i) := by
  unfold rem
  rw [List.filter_filter]
  refine List.filter_congr fun k hk => ?_
  have hk' : k < listed.size := by simp at hk; omega
  simp only [Array.getD, Array.size_setIfInBounds, hk', dif_pos, Array.getInternal_eq_getElem]
  by_cases h : i = k
  ·subst h; simp
  ·have h' : k ≠ i := fun e => h e.symm
   rw [Array.getElem_setIfInBounds_ne hk' h]
   simp [h']
 rw [e1, he, List.filter_append, List.filter_cons]
 simp only [bne_self_eq_false, Bool.false_eq_true, if_false]
 rw [List.nodup_append] at hnd
 obtain ⟨h1, h2, h3⟩ := hnd
 rw [List.nodup_cons] at h2
 rw [List.filter_eq_self.2, List.filter_eq_self.2]
 ·intro a ha
  have : a ≠ i := fun e => h2.1 (e ▸ ha)
  simp [this]
 ·intro a ha
  have : a ≠ i := fun e => h3 a ha i (by simp) e
  simp [this]
theorem dom_rel {fn : FuncId} {ops : Array Oper} {o : Oper} {s : St} {a : Act} (hI : Inv C B K gh s.h w) (hl : RL gh w s.σ a.tmps.toList) : Dom C fn ops o s := by
 intro _ _ sg g hm
 have key : ∀ x, (Az s.σ x = .mp sg g ∨ ∃ off, Az s.σ x = .ptr sg g off) → ∃ ob, s.h.get sg g = some ob := by
  intro x hx
  have hr := Cr hl x
  have hJ : ∃ b, gh.J sg g = some b := by
   rcases hx with e | ⟨off, e⟩ <;> rw [e] at hr <;> generalize a.eval x = v at hr <;> cases hr <;> exact ⟨_, by assumption⟩
  obtain ⟨b, hJ⟩ := hJ
  obtain ⟨ob, hob, _⟩ := hI.dom _ _ _ hJ
  exact ⟨ob, hob⟩
 unfold BA at hm
 split at hm
 ·split at hm
  ·rename_i a s g off e
   simp at hm; obtain ⟨rfl, rfl⟩ := hm
   exact key _ (.inr ⟨_, e⟩)
  ·cases hm
 ·split at hm
  ·rename_i s g e
   simp at hm; obtain ⟨rfl, rfl⟩ := hm
   exact key _ (.inl e)
  ·cases hm
 ·split at hm
  ·split at hm
   ·rename_i s g e
    simp at hm; obtain ⟨rfl, rfl⟩ := hm
    exact key _ (.inl e)
   ·cases hm
  ·cases hm
 ·cases hm
theorem StepR.sound {r : Option Nat} {n : Nat} {fn : FuncId} {ops : Array Oper} {i : Nat} {s s1 : St} {a : Act} {next : Act → World → Prop} {Q : Exit → Act → World → Prop}
  (hP : Aw C) (hI : Inv C B K gh s.h w) (hl : RL gh w s.σ a.tmps.toList) (e : StepR C fn ops i s s1)
  (hn : ∀ a' w' gh', Stp B gh w gh' w' → Inv C B K gh' s1.h w' → RL gh' w' s1.σ a'.tmps.toList → a'.defers = a.defers → next a' w') : wpOpIn (fz r) n C.P ops Q i next a w := by
 cases e with
 | det _ h =>
  refine stepF_sound (fn := fn) hP hI hl ?_ hn
  unfold stepD at h
  split at h
  ·exact h
  ·cases h
 | big o x h1 ho hc hw hb =>
  unfold wpOpIn
  simp only [ho]
  rw [if_pos (want_rel hl _ hw)]
  refine big_sound hI hl hb fun v w' gh' k hI' hra => hn _ w' gh' k (by rw [put_h]; exact hI') (put_rel (hl.mono k) hra) ?_
  cases o.dst <;> rfl
theorem draw_sound {r : Option Nat} {n : Nat} {fn : FuncId} {ops : Array Oper} {s' : St} {Q : Exit → Act → World → Prop} {ds : List Deferred} {w0 : World} {gh0 : Gh} (hP : Aw C) (hd : drawOK C fn ops = true)
  (hQ : ∀ gh' w' a', Stp B gh0 w0 gh' w' → Inv C B K gh' s'.h w' → RL gh' w' s'.σ a'.tmps.toList → a'.defers = ds → Q .normal a' w') :
  ∀ (fuel : Nat) (listed : Array Bool) (s : St) (a : Act) (w : World) (gh : Gh), listed.size = ops.size → Closed ops (LS listed) → (rem ops listed).length ≤ fuel → ExecR C fn ops (rem ops listed) s s' →
   Stp B gh0 w0 gh w → Inv C B K gh s.h w → RL gh w s.σ a.tmps.toList → a.defers = ds → wpAnyIn (fz r) n C.P .any ops Q fuel listed a w := by
 have last : ∀ (listed : Array Bool) (s : St) (a : Act) (w : World) (gh : Gh), listed.size = ops.size → Closed ops (LS listed) → ExecR C fn ops (rem ops listed) s s' →
   Stp B gh0 w0 gh w → Inv C B K gh s.h w → RL gh w s.σ a.tmps.toList → a.defers = ds → Region.ready .any ops listed = [] → Q .normal a w := by
  intro listed s a w gh hn hc he hk hI hl hds hr
  have h0 : rem ops listed = [] := by
   cases e : rem ops listed with
   | nil => rfl
   | cons i l =>
    exfalso
    have hi : i ∈ rem ops listed := by rw [e]; simp
    have hready : i ∈ Region.ready .any ops listed := by
     refine (mem_ready hn).2 ⟨hi, fun o ho e' he' hb => ?_⟩
     have hlt := drawOK_back hd ho he' hb
     apply Classical.byContradiction
     intro hx
     have hm : e'.on ∈ rem ops listed := (mem_rem hn).2 ⟨by have := ((mem_rem hn).1 hi).1; omega, hx⟩
     have hp := rem_lt ops listed
     rw [e] at hp hm
     simp only [List.mem_cons] at hm
     rcases hm with hm | hm
     ·omega
     ·have := (List.pairwise_cons.1 hp).1 _ hm
      omega
    rw [hr] at hready
    cases hready
  rw [h0] at he
  cases he
  exact hQ gh w a hk hI hl hds
 intro fuel
 induction fuel with
 | zero =>
  intro listed s a w gh hn hc hf he hk hI hl hds
  have h0 : rem ops listed = [] := List.eq_nil_of_length_eq_zero (by omega)
  have hr : Region.ready .any ops listed = [] := by
   apply List.eq_nil_iff_forall_not_mem.2
   intro i hi
   have := ((mem_ready hn).1 hi).1
   rw [h0] at this; cases this
  exact ⟨hr, last listed s a w gh hn hc he hk hI hl hds hr⟩
 | succ fuel ih =>
  intro listed s a w gh hn hc hf he hk hI hl hds
  refine ⟨last listed s a w gh hn hc he hk hI hl hds, ?_⟩
  intro i hi
  obtain ⟨hrem, hpr⟩ := (mem_ready hn).1 hi
  obtain ⟨L1, L2, hL⟩ := List.append_of_mem hrem
  have hilt := ((mem_rem hn).1 hrem).1
  have hoi : ops[i]? = some ops[i] := Array.getElem?_eq_getElem hilt
  rw [hL] at he
  have hind : ∀ j ∈ L1, ∃ oj, ops[j]? = some oj ∧ indep C fn ops oj ops[i] = true := by
   intro j hj
   have hjr : j ∈ rem ops listed := by rw [hL]; simp [hj]
   obtain ⟨hjlt, hjn⟩ := (mem_rem hn).1 hjr
   have hoj : ops[j]? = some ops[j] := Array.getElem?_eq_getElem hjlt
   have hji : j < i := by
    have hp := rem_lt ops listed
    rw [hL, List.pairwise_append] at hp
    exact hp.2.2 j hj i (by simp)
   refine ⟨_, hoj, ?_⟩
   rcases drawOK_indep hd hoi hoj hji with h | h
   ·exact absurd (before_bit ops hc i j h hpr) hjn
   ·exact h
  obtain ⟨s1, q1, q2⟩ := bubble hoi L1 s hind he (dom_rel hI hl)
  refine q1.sound hP hI hl (fun a' w' gh' k' hI' hl' hds' => ?_)
  have hL' := rem_set hn hL
  refine ih (listed.setIfInBounds i true) s1 a' w' gh' (by simp [hn]) ?_ ?_ (by rw [hL']; exact q2) (hk.trans k') hI' hl' (hds'.trans hds)
  ·intro k o ho hk e hem hb
   unfold LS at hk ⊢
   have hmono : ∀ x : Nat, listed[x]? = some true → (listed.setIfInBounds i true)[x]? = some true := by
    intro x hx
    rw [Array.getElem?_setIfInBounds]
    split
    ·rename_i e; subst e
     have := (Array.getElem?_eq_some_iff.1 hx).1
     simp [this]
    ·exact hx
   by_cases hki : i = k
   ·subst hki; exact hmono _ (hpr o ho e hem hb)
   ·rw [Array.getElem?_setIfInBounds_ne hki] at hk
    exact hmono _ (hc k o ho hk e hem hb)
  ·rw [hL']
   rw [hL] at hf
   simp at hf ⊢
   omega
end Go.Ev
namespace Go.Ev
open Go Go.RowKit
variable {C : Ctx} {B : Nat} {K : List Nat} {gh : Gh} {h : H} {w : World}
theorem Inv.dropD {D : Nat} (hI : Inv C B (D :: K) gh h w) (hn : D ∉ K) : Stp B gh w gh (w.putObj D (.deferred none)) ∧ Inv C B K gh h (w.putObj D (.deferred none)) := by
 obtain ⟨hB, hD, hJ⟩ := hI.kept D (by simp)
 have hlt := hI.K_lt (D := D) (by simp)
 have k : Stp B gh w gh (w.putObj D (.deferred none)) := by
  refine ⟨⟨rfl, rfl, rfl, by simp, fun k hk => World.putObj_heap_other (by omega)⟩, .refl _, fun b o hF => ?_, fun _ _ e _ => e⟩
  by_cases hb : b = D
  ·subst hb
   refine ⟨?_, fun es c e => by rw [hD] at e; cases e⟩
   simp only [World.cell?, hD, World.putObj_heap_same hlt]
  ·exact Bj.of_block (World.putObj_heap_other hb)
 have hI' : Inv C B K gh h w := { hI with
  tok := fun s t e => ⟨(hI.tok s t e).1, (hI.tok s t e).2.1, fun hm => (hI.tok s t e).2.2 (by simp [hm])⟩
  kept := fun D' hD' => hI.kept D' (by simp [hD']) }
 refine ⟨k, hI'.keep k rfl rfl (fun b hb hc => ⟨World.putObj_heap_other ?_, fun x hx => hx⟩) (fun b o hF => by simp; exact hI.fsize b o hF)⟩
 rintro rfl
 rcases hc with ⟨s, g, e⟩ | ⟨s, t, e, rfl⟩ | hm
 ·exact hJ s g e
 ·exact (hI.tok s t e).2.2 (by simp)
 ·exact hn hm
theorem RL.replicate (n : Nat) : RL gh w (List.replicate n B7) (List.replicate n undef) :=
 ⟨by simp, fun i a x ha hx => by
  rw [List.getElem?_replicate] at ha hx
  split at ha
  ·rename_i hi
   rw [if_pos hi] at hx
   simp at ha hx; subst ha; subst hx
   exact .v _
  ·cases ha⟩
theorem tmp_rel {σ : List AV} {tmps : Array Value} (hl : RL gh w σ tmps.toList) (t : Tmp) : RA gh w ((σ[t]?).getD B7) (tmps.getD t undef) :=
 Cr (a := { tmps := tmps, defers := [] }) hl (.tmp t)
theorem resultA_out {s : St} {tmps : Array Value} {r : ResultVar} {a : AV} (hI : Inv C B K gh s.h w) (hl : RL gh w s.σ tmps.toList) (e : resultA C s r = some a) :
  ∃ v, ((match r with
  | .tmp t => pure (tmps.getD t undef)
  | .cell a t => do loadVar t (← asAddr (tmps.getD a undef)) : Sem Value)).run C.P w = .ok v w ∧ RA gh w a v := by
 cases r with
 | tmp t =>
  simp only [resultA, Option.some.injEq] at e
  subst e
  exact ⟨_, rfl, tmp_rel hl t⟩
 | cell p t =>
  simp only [resultA] at e
  have hr := tmp_rel hl p
  obtain ⟨v, hv, hra⟩ := loadOp_out hI hr e
  refine ⟨v, ?_, hra⟩
  show Sem.run C.P (do loadVar t (← asAddr (tmps.getD p undef)) : Sem Value) w = _
  generalize tmps.getD p undef = pv at hv hr ⊢
  have hp : ∃ adr, pv = .pointer (some adr) := by
   unfold loadOp at e
   split at e
   ·rename_i h0; rw [h0] at hr; cases hr; exact ⟨_, rfl⟩
   ·rename_i h0; rw [h0] at hr; cases hr; exact ⟨_, rfl⟩
   ·rename_i h0; rw [h0] at hr; exact ⟨_, hr.eq_v⟩
   ·cases e
  obtain ⟨adr, rfl⟩ := hp
  simpa [Instr.loadAt, Instr.sureAddr, asAddr] using hv
theorem mapM_out {s : St} {tmps : Array Value} (hI : Inv C B K gh s.h w) (hl : RL gh w s.σ tmps.toList) : ∀ {rs : List ResultVar} {as : List AV}, Ae (resultA C s) rs = some as →
  ∃ vs, (rs.mapM fun (r : ResultVar) => (match r with
  | .tmp t => pure (tmps.getD t undef)
  | .cell a t => do loadVar t (← asAddr (tmps.getD a undef)) : Sem Value)).run C.P w = .ok vs w ∧ RL gh w as vs
 | [], as, e => by
  simp [Ae] at e; subst e
  exact ⟨[], by simp, rfl, fun i a x h => by simp at h⟩
 | r :: rs, as, e => by
  simp only [Ae] at e
  cases e1 : resultA C s r with
  | none => simp [e1] at e
  | some b =>
   simp only [e1] at e
   cases e2 : Ae (resultA C s) rs with
   | none => simp [e2] at e
   | some l =>
    simp only [e2, Option.some.injEq] at e
    subst e
    obtain ⟨v, hv, hr⟩ := resultA_out hI hl e1
    obtain ⟨vs, hvs, hrs⟩ := mapM_out hI hl e2
    refine ⟨v :: vs, ?_, by simp [hrs.1], fun i a x ha hx => ?_⟩
    ·rw [List.mapM_cons]
     simp only [Sem.run_bind, hv, Result.andThen_ok, hvs, Sem.run_pure]
    ·cases i with
     | zero => simp at ha hx; subst ha; subst hx; exact hr
     | succ i => simp at ha hx; exact hrs.2 i a x ha hx
theorem results_out {fd : Func} {s : St} {tmps : Array Value} {a : AV} (hI : Inv C B K gh s.h w) (hl : RL gh w s.σ tmps.toList) (e : Cw C fd s = some a) :
  ∃ v, (results fd tmps).run C.P w = .ok v w ∧ RA gh w a v := by
 unfold Cw at e
 cases e1 : Ae (resultA C s) fd.results.toList with
 | none => simp [e1] at e
 | some as =>
  obtain ⟨vs, hvs, hrs⟩ := mapM_out hI hl e1
  have hm : (results fd tmps).run C.P w = .ok (if h : vs.toArray.size = 1 then vs.toArray[0] else .tuple vs.toArray) w := by
   unfold results
   rw [Array.mapM_eq_mapM_toList, map_eq_pure_bind]
   simp only [Sem.run_bind, Sem.run_pure]
   exact congrArg (fun z => Result.andThen (Result.andThen z (fun a w' => .ok a.toArray w')) (fun a w' => .ok (if h : a.size = 1 then a[0] else .tuple a) w')) hvs
  refine ⟨_, hm, ?_⟩
  rw [e1] at e
  match as, vs, hrs, e with
  | [], [], _, e => simp at e; subst e; exact .v _
  | [x], [v], hrs, e => simp at e; subst e; exact hrs.2 0 x v rfl rfl
  | x :: y :: r, v :: u :: q, hrs, e =>
   simp at e; subst e
   have hne : ¬ (v :: u :: q).toArray.size = 1 := by simp
   rw [dif_neg hne]
   exact .tup _ _ hrs.1 hrs.2
  | [], v :: vs, hrs, e => have := hrs.1; simp at this
  | [x], [], hrs, e => have := hrs.1; simp at this
  | [x], v :: u :: vs, hrs, e => have := hrs.1; simp at this
  | x :: y :: r, [], hrs, e => have := hrs.1; simp at this
  | x :: y :: r, [v], hrs, e => have := hrs.1; simp at this
theorem leaves_marks {n : Nat} {r : Option Nat} {fd : Func} {tmps : Array Value} {R : Ending → World → Prop} : ∀ (Ds : List Nat) (gh : Gh) (w : World), Inv C B (Ds ++ K) gh h w → Ds.Nodup → (∀ D ∈ Ds, D ∉ K) →
  (∀ gh' w', Stp B gh w gh' w' → Inv C B K gh' h w' → ∃ v, (results fd tmps).run C.P w' = .ok v w' ∧ R (.returned v) w') → LeavesInM (fz r) n C.P fd tmps R (Marks Ds) .returning w
 | [], gh, w, hI, _, _, hf => hf gh w (.refl _ _ _) hI
 | D :: Ds, gh, w, hI, hn, hK, hf => by
  rw [List.nodup_cons] at hn
  obtain ⟨k, hI'⟩ := Inv.dropD (K := Ds ++ K) hI (by simp only [List.mem_append, not_or]; exact ⟨hn.1, hK D (by simp)⟩)
  refine ⟨by simp, .inl ⟨D, _, rfl, run_takeDeferred (hI.kept D (by simp)).2.1, ?_⟩⟩
  exact leaves_marks Ds gh _ hI' hn.2 (fun D' hD' => hK D' (by simp [hD'])) (fun gh' w' k' hi => hf gh' w' (k.trans k') hi)
theorem wpIn_monoQ {F : Fence} {n : Nat} {P : Program} {o : Oper} {a : Act} {w : World} {M M' : Act → World → Prop} {Q Q' : Exit → Act → World → Prop} (h : ∀ a w, M a w → M' a w) (hq : ∀ e a w, Q e a w → e ≠ .normal → Q' e a w)
  (hh : o.wpIn F n P a w M Q) : o.wpIn F n P a w M' Q' := by
 have ho : LetsOut Q → LetsOut Q' := fun ⟨a, w, h⟩ => ⟨a, w, hq _ _ _ h (by simp)⟩
 unfold Oper.wpIn at *
 refine ⟨hh.1, ?_⟩
 have hh := hh.2
 generalize (o.semAt F.round a.eval).run P w = r at *
 cases r with
 | ok x w' =>
  cases x <;> simp only [Oper.uponIn] at hh ⊢ <;>
   first
    | exact h _ _ hh
    | exact ⟨hh.1, CallsIn.mono hh.2 (fun e w'' he => by cases e <;> first | exact h _ _ he | exact hq _ _ _ he (by simp) | exact ho he)⟩
    | exact ⟨hh.1, RowsIn.mono hh.2 (fun _ _ he => h _ _ he)⟩
    | exact ⟨hh.1, RoundIn.mono hh.2 (fun e w'' he => by cases e <;> first | exact h _ _ he | exact hq _ _ _ he (by simp) | exact ho he)⟩
 | halt x w' => cases x <;> simp only [Oper.uponIn] at hh ⊢ <;> first | exact hh | exact hq _ _ _ hh (by simp)
theorem wpOpsIn_then {F : Fence} {n : Nat} {P : Program} {ops : Array Oper} {Q : Exit → Act → World → Prop} {l2 : List Nat} : ∀ (l1 : List Nat) (a : Act) (w : World),
  wpOpsIn F n P ops (fun e a w => e = .normal ∧ wpOpsIn F n P ops Q l2 a w) l1 a w → wpOpsIn F n P ops Q (l1 ++ l2) a w
 | [], a, w, h => h.2
 | i :: l1, a, w, h => by
  simp only [List.cons_append]
  rw [wpOpsIn_cons] at h ⊢
  unfold wpOpIn at h ⊢
  split at h
  ·exact wpOpsIn_then l1 _ _ h
  ·split at h
   ·rename_i hw
    rw [if_pos hw]
    exact wpIn_monoQ (fun a w h => wpOpsIn_then l1 a w h) (fun e a w h hn => absurd h.1 hn) h
   ·rename_i hw
    rw [if_neg hw]
    exact ⟨h.1, wpOpsIn_then l1 _ _ h.2⟩
theorem leaves_then {n : Nat} {r : Option Nat} {fd : Func} {tmps : Array Value} {R : Ending → World → Prop} {rest : List Deferred} : ∀ (Ds : List Nat) (gh : Gh) (w : World), Inv C B (Ds ++ K) gh h w → Ds.Nodup → (∀ D ∈ Ds, D ∉ K) →
  (∀ gh' w', Stp B gh w gh' w' → Inv C B K gh' h w' → LeavesInM (fz r) n C.P fd tmps R rest .returning w') → LeavesInM (fz r) n C.P fd tmps R (Marks Ds ++ rest) .returning w
 | [], gh, w, hI, _, _, hf => hf gh w (.refl _ _ _) hI
 | D :: Ds, gh, w, hI, hn, hK, hf => by
  rw [List.nodup_cons] at hn
  obtain ⟨k, hI'⟩ := Inv.dropD (K := Ds ++ K) hI (by simp only [List.mem_append, not_or]; exact ⟨hn.1, hK D (by simp)⟩)
  refine ⟨by simp, .inl ⟨D, _, rfl, run_takeDeferred (hI.kept D (by simp)).2.1, ?_⟩⟩
  exact leaves_then Ds gh _ hI' hn.2 (fun D' hD' => hK D' (by simp [hD'])) (fun gh' w' k' hi => hf gh' w' (k.trans k') hi)
theorem leaves_quiet {n : Nat} {r : Option Nat} {fd : Func} {tmps : Array Value} {R : Ending → World → Prop} {rest : List Deferred} {g : FuncId} {dargs cap : Array Value} {gh : Gh} {w : World} (hq : Quiet C.P g)
  (hb : ((C.P.funcs[g]?).map fun fn => (fn.body.isSome, fn.name == "runtime.NumGoroutine")) = some (true, false)) (hI : Inv C B K gh h w)
  (hf : ∀ w', Stp B gh w gh w' → Inv C B K gh h w' → LeavesInM (fz r) n C.P fd tmps R rest .returning w') : LeavesInM (fz r) n C.P fd tmps R ({ target := .fn (.func g) cap, args := dargs } :: rest) .returning w := by
 refine ⟨by simp, .inr ⟨fz_depth _ _, .func g, cap, g, dargs ++ cap, rfl, ?_, fun f hf => trivial, ?_⟩⟩
 ·simp only [invoke]
  exact callFunc_run hb
 ·refine (hq r (n - 1) (dargs ++ cap) w).mono ?_
  rintro e u' w' ⟨⟨v, rfl⟩, rfl, hB⟩
  have k : Stp B gh w gh w' := ⟨hB.mono hI.size, .refl _, fun b o hF => Bj.of_block (hB.block b (hI.fsize b o hF)), fun b o e hb => e⟩
  exact hf w' k (hI.keep k rfl rfl (fun b hb _ => ⟨hB.block b hb, fun x hx => hx⟩) fun b o hF => by have := hI.fsize b o hF; have := hB.size; omega)
def Post (C : Ctx) (B : Nat) (K : List Nat) (gh : Gh) (w : World) (ds : List Deferred) (rd : Bool) (s' : St) (a' : Act) (w' : World) : Prop :=
 ∃ gh' Ds, Stp B gh w gh' w' ∧ Inv C B (Ds ++ K) gh' s'.h w' ∧ RL gh' w' s'.σ a'.tmps.toList ∧ (rd = true → Ds = []) ∧ a'.defers = Marks Ds ++ ds ∧ Ds.Nodup ∧ ∀ D ∈ Ds, w.heap.size ≤ D
theorem Post.same {ds : List Deferred} {rd : Bool} {s' : St} {a' : Act} {gh' : Gh} {w' : World} (k : Stp B gh w gh' w') (hI : Inv C B K gh' s'.h w') (hl : RL gh' w' s'.σ a'.tmps.toList) (hd : a'.defers = ds) :
  Post C B K gh w ds rd s' a' w' := ⟨gh', [], k, hI, hl, fun _ => rfl, by simpa [Marks] using hd, List.nodup_nil, fun D hD => by cases hD⟩
theorem Post.trans {ds : List Deferred} {rd : Bool} {s1 s2 : St} {a1 a2 : Act} {gh1 : Gh} {w1 w2 : World} {Ds : List Nat} (k : Stp B gh w gh1 w1) (hI : Inv C B (Ds ++ K) gh1 s1.h w1) (hrd : rd = true → Ds = [])
  (hd : a1.defers = Marks Ds ++ ds) (hn : Ds.Nodup) (hlt : ∀ D ∈ Ds, w.heap.size ≤ D) (h2 : Post C B (Ds ++ K) gh1 w1 a1.defers rd s2 a2 w2) : Post C B K gh w ds rd s2 a2 w2 := by
 obtain ⟨gh2, Ds2, q1, q2, q3, q4, q5, q6, q7⟩ := h2
 refine ⟨gh2, Ds2 ++ Ds, k.trans q1, by rw [List.append_assoc]; exact q2, q3, fun hr => by rw [hrd hr, q4 hr]; rfl, by rw [q5, hd]; simp [Marks], ?_, ?_⟩
 ·rw [List.nodup_append]
  refine ⟨q6, hn, fun x hx y hy he => ?_⟩
  subst he
  have := q7 x hx
  have := hI.K_lt (D := x) (by simp [hy])
  omega
 ·intro D hD
  rcases List.mem_append.1 hD with hD | hD
  ·have := q7 D hD; have := k.below.size; omega
  ·exact hlt D hD
def wpM (m : Nat) (F : Fence) (n : Nat) (P : Program) (Q : Exit → Act → World → Prop) : Code → Act → World → Prop
 | .loop b, a, w => Code.roundsIn F n P b Q m a w
 | c, a, w => c.wpIn F n P Q a w
theorem wpM_wp {m : Nat} {F : Fence} {n : Nat} {P : Program} {Q : Exit → Act → World → Prop} {c : Code} {a : Act} {w : World} (h : wpM m F n P Q c a w) : c.wpIn F n P Q a w := by
 cases c <;> first | exact h | exact wpIn_loop_rounds m h
def MC (C : Ctx) (rd : Bool) (c : Code) (s : St) (x : X) (s' : St) : Prop :=
 ∃ m, ∀ (r : Option Nat) (n B : Nat) (K : List Nat) (gh : Gh) (w : World) (a : Act), r.isSome = rd → Inv C B K gh s.h w → RL gh w s.σ a.tmps.toList →
  ∀ Q : Exit → Act → World → Prop, (∀ a' w', Post C B K gh w a.defers rd s' a' w' → Q x.toExit a' w') → wpM m (fz r) n C.P Q c a w
def MO (C : Ctx) (ops : Array Oper) (l : List Nat) (s s' : St) : Prop :=
 ∀ (r : Option Nat) (n B : Nat) (K : List Nat) (gh : Gh) (w : World) (a : Act), Inv C B K gh s.h w → RL gh w s.σ a.tmps.toList →
  ∀ Q : Exit → Act → World → Prop, (∀ a' w' gh', Stp B gh w gh' w' → Inv C B K gh' s'.h w' → RL gh' w' s'.σ a'.tmps.toList → a'.defers = a.defers → Q .normal a' w') → wpOpsIn (fz r) n C.P ops Q l a w
def Mot (C : Ctx) : Task → Res → Prop
 | .code fn rd c s, .code x s' => MC C rd c s x s'
 | .ops fn ops l s, .ops s' => MO C ops l s s'
 | .draws fn ops l s, .ops s' => ExecR C fn ops l s s'
 | .call f args h, .val x h' => MF C f args h x h'
 | .yld ys yg args h, .val x h' => MY C ys yg args h x h'
 | _, _ => True
theorem MC.of_wp {rd : Bool} {c : Code} {s s' : St} {x : X} (hc : ∀ b, c ≠ .loop b)
  (h : ∀ (r : Option Nat) (n B : Nat) (K : List Nat) (gh : Gh) (w : World) (a : Act), r.isSome = rd → Inv C B K gh s.h w → RL gh w s.σ a.tmps.toList →
   ∀ Q : Exit → Act → World → Prop, (∀ a' w', Post C B K gh w a.defers rd s' a' w' → Q x.toExit a' w') → c.wpIn (fz r) n C.P Q a w) : MC C rd c s x s' := by
 refine ⟨0, fun r n B K gh w a hr hI hl Q hQ => ?_⟩
 have := h r n B K gh w a hr hI hl Q hQ
 cases c <;> first | exact this | exact absurd rfl (hc _)
theorem then_X {next : Act → World → Prop} {Q : Exit → Act → World → Prop} {x : X} {a : Act} {w : World} (hx : x ≠ .normal) (h : Q x.toExit a w) : Exit.then next Q x.toExit a w := by
 cases x <;> first | exact absurd rfl hx | exact h
theorem Ev.sound {O : Task → Res → Prop} (hP : Aw C) (hO : ∀ t r, O t r → Mot C t r) (hm : C.P.follows .mixedOrders = true) {t : Task} {r : Res} (h : Ev C O t r) : Mot C t r := by
 induction h with
 | ora t r h => exact hO t r h
 | forgetOut fn rd c s s1 s2 x hf h ih =>
  obtain ⟨m, i⟩ := ih
  obtain ⟨f1, f2, f3⟩ := hf
  refine ⟨m, fun r n B K gh w a hr hI hl Q hQ => i r n B K gh w a hr hI hl Q ?_⟩
  rintro a' w' ⟨gh', Ds, q1, q2, q3, q4, q5, q6, q7⟩
  refine hQ a' w' ⟨gh', Ds, q1, by rw [f1]; exact q2, ⟨by rw [f2]; exact q3.1, fun j y v hy hv => ?_⟩, q4, q5, q6, q7⟩
  rcases f3 j with e | e
  ·exact q3.2 j y v (by rw [← e]; exact hy) hv
  ·rw [e] at hy; simp at hy; subst hy; exact .top v
 | dropOut fn rd c s s1 x L h0 h1 h2 h ih =>
  obtain ⟨m, i⟩ := ih
  refine ⟨m, fun r n B K gh w a hr hI hl Q hQ => i r n B K gh w a hr hI hl Q ?_⟩
  rintro a' w' ⟨gh', Ds, q1, q2, q3, q4, q5, q6, q7⟩
  exact hQ a' w' ⟨gh'.drop L, Ds, q1.drop hI h0, q2.drop h1, q3.drop h2, q4, q5, q6, q7⟩
 | forget fn rd c s s' s1 x hf h ih =>
  obtain ⟨m, i⟩ := ih
  obtain ⟨f1, f2, f3⟩ := hf
  refine ⟨m, fun r n B K gh w a hr hI hl Q hQ => i r n B K gh w a hr (by rw [f1]; exact hI) ⟨by rw [f2]; exact hl.1, fun j y v hy hv => ?_⟩ Q hQ⟩
  rcases f3 j with e | e
  ·exact hl.2 j y v (by rw [← e]; exact hy) hv
  ·rw [e] at hy; simp at hy; subst hy; exact .top v
 | skip fn rd s => exact .of_wp (by simp) fun r n B K gh w a hr hI hl Q hQ => wpIn_skip (hQ _ _ (.same (.refl _ _ _) hI hl rfl))
 | label fn rd l s => exact .of_wp (by simp) fun r n B K gh w a hr hI hl Q hQ => wpIn_label (hQ _ _ (.same (.refl _ _ _) hI hl rfl))
 | exit fn rd id s => exact .of_wp (by simp) fun r n B K gh w a hr hI hl Q hQ => wpIn_exit (hQ _ _ (.same (.refl _ _ _) hI hl rfl))
 | goto fn rd id s => exact .of_wp (by simp) fun r n B K gh w a hr hI hl Q hQ => wpIn_goto (hQ _ _ (.same (.refl _ _ _) hI hl rfl))
 | ret fn rd s => exact .of_wp (by simp) fun r n B K gh w a hr hI hl Q hQ => wpIn_ret (hQ _ _ (.same (.refl _ _ _) hI hl rfl))
 | region fn rd id ops s s' h ih =>
  exact .of_wp (by simp) fun r n B K gh w a hr hI hl Q hQ => wpIn_region (ih r n B K gh w a hI hl Q fun a' w' gh' k hI' hl' hd => hQ _ _ (.same k hI' hl' hd))
 | draw fn rd id ops s s' hc _ h =>
  refine .of_wp (by simp) fun r n B K gh w a hr hI hl Q hQ => wpIn_region_any hm ?_
  have hw : Stp B gh w gh { w with drawn := w.drawn + 1 } := ⟨⟨rfl, rfl, rfl, Nat.le_refl _, fun _ _ => rfl⟩, .refl _, fun _ _ _ => Bj.of_block rfl, fun _ _ e _ => e⟩
  have hI' : Inv C B K gh s.h { w with drawn := w.drawn + 1 } := hI.keep hw rfl rfl (fun b hb _ => ⟨rfl, fun x hx => hx⟩) (fun b o hF => hI.fsize b o hF)
  refine draw_sound (fn := fn) (gh0 := gh) (w0 := w) (ds := a.defers) (s' := s') hP hc (fun gh' w' a' k hI' hl' hd => hQ _ _ (.same k hI' hl' hd)) ops.size _ s a _ gh (by simp) ?_ ?_ ?_ hw hI' (hl.mono hw) rfl
  ·intro i o ho hi
   exfalso
   unfold LS at hi
   rw [Array.getElem?_replicate] at hi
   split at hi <;> simp at hi
  ·unfold rem
   exact Nat.le_trans (List.length_filter_le _ _) (by simp)
  ·have e : rem ops (Array.replicate ops.size false) = List.range ops.size := by
    unfold rem
    rw [List.filter_eq_self]
    intro i hi
    simp at hi
    simp [Array.getD, hi]
   rw [e]; exact h
 | seq fn rd a b s s1 s2 x h1 h2 ih1 ih2 =>
  obtain ⟨m1, i1⟩ := ih1
  obtain ⟨m2, i2⟩ := ih2
  refine .of_wp (by simp) fun r n B K gh w a hr hI hl Q hQ => wpIn_seq (wpM_wp (i1 r n B K gh w a hr hI hl _ ?_))
  rintro a' w' ⟨gh', Ds, q1, q2, q3, q4, q5, q6, q7⟩
  exact wpM_wp (i2 r n B _ gh' w' a' hr q2 q3 Q fun a'' w'' hp => hQ _ _ (.trans q1 q2 q4 q5 q6 q7 hp))
 | seqX fn rd a b s s1 x h1 hx ih1 =>
  obtain ⟨m1, i1⟩ := ih1
  exact .of_wp (by simp) fun r n B K gh w a hr hI hl Q hQ => wpIn_seq (wpM_wp (i1 r n B K gh w a hr hI hl _ fun a' w' hp => then_X hx (hQ _ _ hp)))
 | cond fn rd c a b s s1 x t hc h1 ih1 =>
  obtain ⟨m1, i1⟩ := ih1
  refine .of_wp (by simp) fun r n B K gh w a hr hI hl Q hQ => wpIn_cond (t := t) ?_ (wpM_wp (i1 r n B K gh w a hr hI hl Q hQ))
  have := Cr hl c
  rw [hc] at this
  exact this.eq_v
 | block fn rd id a s s1 x h1 ih1 =>
  obtain ⟨m1, i1⟩ := ih1
  refine .of_wp (by simp) fun r n B K gh w a hr hI hl Q hQ => wpIn_block (wpM_wp (i1 r n B K gh w a hr hI hl _ fun a' w' hp => ?_))
  have := hQ a' w' hp
  cases x with
  | exit i =>
   by_cases e : i = id
   ·simp only [X.toExit, X.inBlock, Exit.inBlock, e, if_true] at this ⊢; exact this
   ·simp only [X.toExit, X.inBlock, Exit.inBlock, e, if_false] at this ⊢; exact this
  | _ => exact this
 | loop fn rd a s s1 s2 x h1 h2 ih1 ih2 =>
  obtain ⟨m1, i1⟩ := ih1
  obtain ⟨m2, i2⟩ := ih2
  refine ⟨m2 + 1, fun r n B K gh w a hr hI hl Q hQ => ?_⟩
  show Code.roundsIn _ _ _ _ _ (m2 + 1) _ _
  rw [roundsIn_succ]
  refine wpM_wp (i1 r n B K gh w a hr hI hl _ ?_)
  rintro a' w' ⟨gh', Ds, q1, q2, q3, q4, q5, q6, q7⟩
  exact i2 r n B _ gh' w' a' hr q2 q3 Q fun a'' w'' hp => hQ _ _ (.trans q1 q2 q4 q5 q6 q7 hp)
 | loopX fn rd a s s1 x h1 hx ih1 =>
  obtain ⟨m1, i1⟩ := ih1
  refine ⟨1, fun r n B K gh w a hr hI hl Q hQ => ?_⟩
  show Code.roundsIn _ _ _ _ _ (0 + 1) _ _
  rw [roundsIn_succ]
  exact wpM_wp (i1 r n B K gh w a hr hI hl _ fun a' w' hp => then_X hx (hQ _ _ hp))
 | nil fn ops s => exact fun r n B K gh w a hI hl Q hQ => hQ _ _ gh (.refl _ _ _) hI hl rfl
 | step fn ops i r s s1 s2 h1 h2 ih =>
  intro r n B K gh w a hI hl Q hQ
  rw [wpOpsIn_cons]
  exact stepF_sound hP hI hl h1 fun a' w' gh' k hI' hl' hd => ih _ n B K gh' w' a' hI' hl' Q fun a'' w'' gh'' k' hI'' hl'' hd' => hQ _ _ gh'' (k.trans k') hI'' hl'' (hd'.trans hd)
 | callOp fn ops i rs s s2 o c f g first cap x h1 ho hw hop hcal hg hb hcall h2 ih1 ih2 =>
  intro r n B K gh w a hI hl Q hQ
  rw [wpOpsIn_cons]
  unfold wpOpIn
  simp only [ho]
  rw [if_pos (want_rel hl _ hw)]
  refine big_sound hI hl (.call c f g first cap hop hcal hg hb ih1) fun v w' gh' k hI' hra => ?_
  refine ih2 r n B K gh' w' _ (by rw [put_h]; exact hI') (put_rel (hl.mono k) hra) Q fun a'' w'' gh'' k' hI'' hl'' hd' => hQ _ _ gh'' (k.trans k') hI'' hl'' (hd'.trans ?_)
  cases o.dst <;> rfl
 | invOp fn ops i rs s s2 o c rv m g recv x h1 ho hw hop hcal hg hb hcall h2 ih1 ih2 =>
  intro r n B K gh w a hI hl Q hQ
  rw [wpOpsIn_cons]
  unfold wpOpIn
  simp only [ho]
  rw [if_pos (want_rel hl _ hw)]
  refine big_sound hI hl (.inv c rv m g recv hop hcal hg hb ih1) fun v w' gh' k hI' hra => ?_
  refine ih2 r n B K gh' w' _ (by rw [put_h]; exact hI') (put_rel (hl.mono k) hra) Q fun a'' w'' gh'' k' hI'' hl'' hd' => hQ _ _ gh'' (k.trans k') hI'' hl'' (hd'.trans ?_)
  cases o.dst <;> rfl
 | dinv fn ops i r s s2 o c rv m g recv a h1 ho hcls hw hop hcal hg hb hcall h2 ih1 ih2 => exact .cons _ _ _ _ _ (.big o a h1 ho hcls hw (.inv c rv m g recv hop hcal hg hb ih1)) ih2
 | dnil fn ops s => exact .nil s
 | dstep fn ops i r s s1 s2 h1 h2 ih => exact .cons _ _ _ _ _ (.det _ h1) ih
 | dcall fn ops i r s s2 o c f g first cap a h1 ho hcls hw hop hcal hg hb hcall h2 ih1 ih2 => exact .cons _ _ _ _ _ (.big o a h1 ho hcls hw (.call c f g first cap hop hcal hg hb ih1)) ih2
 | call f args h fd c x s a hf hb h1 hx hr ih =>
  intro r n B K gh w vs hI hl
  obtain ⟨m, i⟩ := ih
  refine callsIn_r (r := none) (callsIn_of_wp_marks hf hb trivial ?_)
  have hlen := hl.1
  refine wpM_wp (i none n B K gh w _ rfl hI ?_ _ ?_)
  ·have := hl.app (RL.replicate (gh := gh) (w := w) (fd.ntmps - args.length))
   simpa [hlen] using this
  rintro a' w' ⟨gh', Ds, q1, q2, q3, q4, q5, q6, q7⟩
  have hleave : LeavesInM (fz none) n C.P fd a'.tmps (RV C B K gh w a s.h) a'.defers .returning w' := by
   rw [q5]
   simp only [List.append_nil]
   refine leaves_marks (h := s.h) Ds gh' w' q2 q6 (fun D hD hK => ?_) fun gh'' w'' k' hI'' => ?_
   ·have := q7 D hD; have := hI.K_lt hK; omega
   ·obtain ⟨v, hv, hra⟩ := results_out hI'' (q3.mono k') hr
    exact ⟨v, hv, v, rfl, gh'', q1.trans k', hI'', hra⟩
  rcases hx with rfl | rfl <;> exact hleave
 | callD f args h fd c0 c2 id ops x s0 s1 s2 a o cal fop g first cap hf hb h0 h1 hz ho hgd hop hcal hg hq hbg h2 hx hr ih0 ih1 ih2 =>
  intro r n B K gh w vs hI hl
  obtain ⟨m0, i0⟩ := ih0
  obtain ⟨m2, i2⟩ := ih2
  refine callsIn_r (r := none) (callsIn_of_wp_marks hf hb trivial ?_)
  have hlen := hl.1
  refine wpIn_seq (wpM_wp (i0 none n B K gh w _ rfl hI ?_ _ ?_))
  ·have := hl.app (RL.replicate (gh := gh) (w := w) (fd.ntmps - args.length))
   simpa [hlen] using this
  rintro a0 w0 ⟨gh0, Ds0, p1, p2, p3, p4, p5, p6, p7⟩
  refine wpIn_seq (wpIn_region ?_)
  have hsz : List.range ops.size = List.range (ops.size - 1) ++ [ops.size - 1] := by
   rw [← List.range_succ]; congr 1; omega
  rw [hsz]
  refine wpOpsIn_then _ _ _ (ih1 none n B _ gh0 w0 a0 p2 p3 _ ?_)
  intro a1 w1 gh1 k1 hI1 hl1 hd1
  refine ⟨rfl, ?_⟩
  rw [wpOpsIn_cons]
  unfold wpOpIn
  simp only [ho]
  rw [if_pos (by simp [Region.wanted, hgd])]
  obtain ⟨ff, fs, cs, hv, hfs, hcs, hff⟩ := callee_rel (Cr hl1 fop) hg
  simp only at hff; subst hff
  refine ⟨fun _ _ => trivial, ?_⟩
  have hrun : (Oper.semAt (fz none).round a1.eval o).run C.P w1 = .ok (.defer { target := .fn (.func g) cs, args := fs ++ cal.args.map a1.eval }) w1 := by
   show (execOp a1.eval o).run C.P w1 = _
   simp only [execOp, hop, resolve, hcal, hv, Deferred.ofValue, Sem.run_bind, Sem.run_pure, Result.andThen_ok]
  rw [hrun, Oper.uponIn_defer]
  simp only [wpOpsIn]
  refine wpM_wp (i2 none n B _ gh1 w1 _ rfl (by rw [put_h]; exact hI1) ?_ _ ?_)
  ·have := put_rel (s := s1) (a := { a1 with defers := { target := .fn (.func g) cs, args := fs ++ cal.args.map a1.eval } :: a1.defers }) (dst := o.dst) (x := B7) (v := undef) (h' := s1.h) hl1 (.v _)
   exact this
  rintro a2 w2 ⟨gh2, Ds2, q1, q2, q3, q4, q5, q6, q7⟩
  have hd2 : a2.defers = Marks Ds2 ++ ({ target := .fn (.func g) cs, args := fs ++ cal.args.map a1.eval } :: Marks Ds0) := by
   rw [q5]
   have e : (({ a1 with defers := { target := .fn (.func g) cs, args := fs ++ cal.args.map a1.eval } :: a1.defers } : Act).put o.dst undef).defers = { target := .fn (.func g) cs, args := fs ++ cal.args.map a1.eval } :: a1.defers := by
    cases o.dst <;> rfl
   rw [e, hd1, p5]
   simp
  have hleave : LeavesInM (fz none) n C.P fd a2.tmps (RV C B K gh w a s2.h) a2.defers .returning w2 := by
   rw [hd2]
   refine leaves_then (K := Ds0 ++ K) (h := s2.h) Ds2 gh2 w2 q2 q6 (fun D hD hK => ?_) fun gh3 w3 k3 hI3 => ?_
   ·have := q7 D hD; have := hI1.K_lt hK; omega
   refine leaves_quiet (h := s2.h) (hP.2.1 g hq) hbg hI3 fun w4 k4 hI4 => ?_
   refine leaves_marks (h := s2.h) Ds0 gh3 w4 hI4 p6 (fun D hD hK => ?_) fun gh'' w'' k' hI'' => ?_
   ·have := p7 D hD; have := hI.K_lt hK; omega
   ·have kk := (k3.trans k4).trans k'
    obtain ⟨v, hv, hra⟩ := results_out hI'' (q3.mono kk) hr
    exact ⟨v, hv, v, rfl, gh'', ((p1.trans k1).trans q1).trans kk, hI'', hra⟩
  rcases hx with rfl | rfl <;> exact hleave
end Go.Ev
namespace Go.Ev
open Go Go.RowKit
def eqV : Value → Value → Bool
 | .int k a, .int l b => decide (k = l) && decide (a = b)
 | .bool a, .bool b => decide (a = b)
 | .slice none a b, .slice none c d => decide (a = c) && decide (b = d)
 | .nilFunc, .nilFunc => true
 | .pointer none, .pointer none => true
 | .func (.func f) a b, .func (.func g) c d => decide (f = g) && a.isEmpty && b.isEmpty && c.isEmpty && d.isEmpty
 | .tuple a, .tuple b => a.isEmpty && b.isEmpty
 | _, _ => false
theorem eqV_eq {x y : Value} (h : eqV x y = true) : x = y := by
 unfold eqV at h
 split at h <;> simp_all
mutual
def eqD : DV → DV → Bool
 | .v x, .v y => eqV x y
 | .sl s f r, .sl s' f' r' => decide (s = s') && decide (f = f') && eqDLL r r'
 | _, _ => false
def eqDL : List DV → List DV → Bool
 | [], [] => true
 | a :: r, b :: s => eqD a b && eqDL r s
 | _, _ => false
def eqDLL : A8 → A8 → Bool
 | [], [] => true
 | a :: r, b :: s => eqDL a b && eqDLL r s
 | _, _ => false
end
mutual
theorem eqD_eq : ∀ {x y : DV}, eqD x y = true → x = y
 | .v x, .v y, h => by simp only [eqD] at h; rw [eqV_eq h]
 | .sl s f r, .sl s' f' r', h => by
  simp only [eqD, Bool.and_eq_true, decide_eq_true_eq] at h
  obtain ⟨⟨rfl, rfl⟩, h⟩ := h
  rw [eqDLL_eq h]
 | .v _, .sl .., h => by simp [eqD] at h
 | .v _, .mp .., h => by simp [eqD] at h
 | .sl .., .v _, h => by simp [eqD] at h
 | .sl .., .mp .., h => by simp [eqD] at h
 | .mp .., _, h => by simp [eqD] at h
theorem eqDL_eq : ∀ {x y : List DV}, eqDL x y = true → x = y
 | [], [], _ => rfl
 | a :: r, b :: s, h => by
  simp only [eqDL, Bool.and_eq_true] at h
  rw [eqD_eq h.1, eqDL_eq h.2]
 | [], _ :: _, h => by simp [eqDL] at h
 | _ :: _, [], h => by simp [eqDL] at h
theorem eqDLL_eq : ∀ {x y : A8}, eqDLL x y = true → x = y
 | [], [], _ => rfl
 | a :: r, b :: s, h => by
  simp only [eqDLL, Bool.and_eq_true] at h
  rw [eqDL_eq h.1, eqDLL_eq h.2]
 | [], _ :: _, h => by simp [eqDLL] at h
 | _ :: _, [], h => by simp [eqDLL] at h
end
def eqF : AFn → AFn → Bool
 | .fn f, .fn g => match f, g with
  | .func a, .func b => decide (a = b)
  | _, _ => false
 | _, _ => false
theorem eqF_eq {f g : AFn} (h : eqF f g = true) : f = g := by
 cases f with
 | yield => simp [eqF] at h
 | fn f => cases g with
  | yield => simp [eqF] at h
  | fn g =>
   simp only [eqF] at h
   split at h
   ·simp at h; rw [h]
   ·cases h
mutual
def eqA : AV → AV → Bool
 | .d x, .d y => eqD x y
 | .agg a, .agg b => eqAL a b
 | .tup a, .tup b => eqAL a b
 | .ptr s g o, .ptr s' g' o' => decide (s = s') && decide (g = g') && decide (o = o')
 | .st z r s g, .st z' r' s' g' => decide (z = z') && eqDLL r r' && decide (s = s') && decide (g = g')
 | .hs s g o l z, .hs s' g' o' l' z' => decide (s = s') && decide (g = g') && decide (o = o') && decide (l = l') && decide (z = z')
 | .fn f a b, .fn g c d => eqF f g && eqAL a c && eqAL b d
 | _, _ => false
def eqAL : List AV → List AV → Bool
 | [], [] => true
 | a :: r, b :: s => eqA a b && eqAL r s
 | _, _ => false
end
mutual
theorem eqA_eq {x y : AV} (h : eqA x y = true) : x = y := by
 cases x <;> cases y <;> simp only [eqA, Bool.and_eq_true, decide_eq_true_eq, Bool.false_eq_true] at h
 case d.d x y => rw [eqD_eq h]
 case agg.agg a b => rw [eqAL_eq h]
 case tup.tup a b => rw [eqAL_eq h]
 case ptr.ptr => obtain ⟨⟨rfl, rfl⟩, rfl⟩ := h; rfl
 case st.st => obtain ⟨⟨⟨rfl, h⟩, rfl⟩, rfl⟩ := h; rw [eqDLL_eq h]
 case hs.hs => obtain ⟨⟨⟨⟨rfl, rfl⟩, rfl⟩, rfl⟩, rfl⟩ := h; rfl
 case fn.fn f a b g c d =>
  obtain ⟨⟨h0, h1⟩, h2⟩ := h
  rw [eqF_eq h0, eqAL_eq h1, eqAL_eq h2]
theorem eqAL_eq {x y : List AV} (h : eqAL x y = true) : x = y := by
 cases x with
 | nil => cases y with
  | nil => rfl
  | cons b s => simp [eqAL] at h
 | cons a r => cases y with
  | nil => simp [eqAL] at h
  | cons b s =>
   simp only [eqAL, Bool.and_eq_true] at h
   rw [eqA_eq h.1, eqAL_eq h.2]
end
def eqO : AO → AO → Bool
 | .cells a f, .cells b g => eqAL a b && decide (f = g)
 | .dead, .dead => true
 | _, _ => false
theorem eqO_eq {x y : AO} (h : eqO x y = true) : x = y := by
 unfold eqO at h
 split at h
 ·simp only [Bool.and_eq_true, decide_eq_true_eq] at h
  obtain ⟨h, rfl⟩ := h
  rw [eqAL_eq h]
 ·rfl
 ·cases h
def eqOL : List AO → List AO → Bool
 | [], [] => true
 | a :: r, b :: s => eqO a b && eqOL r s
 | _, _ => false
theorem eqOL_eq : ∀ {x y : List AO}, eqOL x y = true → x = y
 | [], [], _ => rfl
 | a :: r, b :: s, h => by
  simp only [eqOL, Bool.and_eq_true] at h
  rw [eqO_eq h.1, eqOL_eq h.2]
 | [], _ :: _, h => by simp [eqOL] at h
 | _ :: _, [], h => by simp [eqOL] at h
def keptB (h h1 : H) : Bool := h.objs.all fun e => decide (e.2.1 ≤ (Bl e.1 h1.objs).1) && eqOL e.2.2 ((Bl e.1 h1.objs).2.drop ((Bl e.1 h1.objs).1 - e.2.1))
theorem lookS_in {s : Nat} : ∀ {L : List (Nat × Nat × List AO)}, (Bl s L).1 ≠ 0 → (s, Bl s L) ∈ L
 | [], h => absurd rfl h
 | (t, n, l) :: r, h => by
  simp only [Bl] at h ⊢
  split at h
  ·rename_i e
   have : t = s := by simpa using e
   subst this
   simp
  ·rename_i e
   rw [if_neg e]
   exact List.mem_cons_of_mem _ (lookS_in h)
theorem keptB_ok {h h1 : H} (hk : keptB h h1 = true) : AllKept h h1 := by
 intro s g ob hg
 simp only [H.get] at hg ⊢
 split at hg
 ·rename_i hlt
  have hm := lookS_in (s := s) (L := h.objs) (by omega)
  unfold keptB at hk
  rw [List.all_eq_true] at hk
  have hh := hk _ hm
  simp only [Bool.and_eq_true, decide_eq_true_eq] at hh
  obtain ⟨h1le, h2⟩ := hh
  have he := eqOL_eq h2
  rw [if_pos (by omega)]
  rw [he, List.getElem?_drop] at hg
  rw [← hg]
  congr 1
  omega
 ·cases hg
end Go.Ev
namespace Go.Ev
open Go Go.RowKit
def hasBody (C : Ctx) (f : FuncId) : Bool := match C.P.funcs[f]? with
 | some fn => fn.body.isSome && !(fn.name == "runtime.NumGoroutine")
 | none => false
theorem B9 {C : Ctx} {f : FuncId} (h : hasBody C f = true) : ((C.P.funcs[f]?).map fun fn => (fn.body.isSome, fn.name == "runtime.NumGoroutine")) = some (true, false) := by
 unfold hasBody at h
 cases e : C.P.funcs[f]? with
 | none => simp [e] at h
 | some fn => simp only [e, Bool.and_eq_true, Bool.not_eq_true'] at h; simp [h.1, h.2]
abbrev Rec := Task → Option Res
def runCode (rec : Rec) (fn : FuncId) (rd : Bool) (c : Code) (s : St) : Option (X × St) :=
 match rec (.code fn rd c s) with
 | some (.code x s') => some (x, s')
 | _ => none
def runOps (rec : Rec) (fn : FuncId) (ops : Array Oper) (l : List Nat) (s : St) : Option St :=
 match rec (.ops fn ops l s) with
 | some (.ops s') => some s'
 | _ => none
def runDraws (rec : Rec) (fn : FuncId) (ops : Array Oper) (l : List Nat) (s : St) : Option St :=
 match rec (.draws fn ops l s) with
 | some (.ops s') => some s'
 | _ => none
def runVal (rec : Rec) (t : Task) : Option (AV × H) :=
 match rec t with
 | some (.val a h) => some (a, h)
 | _ => none
def callStep (C : Ctx) (rec : Rec) (fn : FuncId) (ops : Array Oper) (i : Nat) (s : St) : Option St :=
 match ops[i]? with
 | some o =>
  if wantA ops s.σ o then
   match o.op with
   | .call c => match c.callee with
    | .value f => match BO (Az s.σ f) with
     | some (.fn (.func g), first, cap) =>
      if hasBody C g then
       match runVal rec (.call g (first ++ c.args.toList.map (Az s.σ) ++ cap) s.h) with
       | some (a, h1) => some (s.put o.dst a h1)
       | none => none
      else none
     | _ => none
    | .invoke rv m => match methA C (Az s.σ rv) m with
     | some (g, recv) =>
      if hasBody C g then
       match runVal rec (.call g ([recv] ++ c.args.toList.map (Az s.σ)) s.h) with
       | some (a, h1) => some (s.put o.dst a h1)
       | none => none
      else none
     | none => none
    | _ => none
   | _ => none
  else none
 | none => none
def onlyKept (h : H) : Option St → Option St
 | some s1 => if keptB h s1.h then some s1 else none
 | none => none
def splitD : Code → Option (Code × Nat × Array Oper × Oper × Call × Operand × Code)
 | .seq c0 (.seq (.region id ops false) c2) => match ops[ops.size - 1]? with
  | some o => match o.op, o.guard with
   | .defer cal, none => match cal.callee with
    | .value fop => some (c0, id, ops, o, cal, fop, c2)
    | _ => none
   | _, _ => none
  | none => none
 | _ => none
theorem splitD_eq {c c0 c2 : Code} {id : Nat} {ops : Array Oper} {o : Oper} {cal : Call} {fop : Operand} (h : splitD c = some (c0, id, ops, o, cal, fop, c2)) :
  c = .seq c0 (.seq (.region id ops false) c2) ∧ 0 < ops.size ∧ ops[ops.size - 1]? = some o ∧ o.guard = none ∧ o.op = .defer cal ∧ cal.callee = .value fop := by
 unfold splitD at h
 split at h
 ·split at h
  ·rename_i o' ho
   split at h
   ·rename_i cal' hop hgd
    split at h
    ·rename_i f' hf
     simp only [Option.some.injEq, Prod.mk.injEq] at h
     obtain ⟨rfl, rfl, rfl, rfl, rfl, rfl, rfl⟩ := h
     refine ⟨rfl, ?_, ho, hgd, hop, hf⟩
     have := (Array.getElem?_eq_some_iff.1 ho).1
     omega
    ·cases h
   ·cases h
  ·cases h
 ·cases h
def By (C : Ctx) (rec : Rec) : Rec
 | .code fn rd c s => match c with
  | .skip => some (.code .normal s)
  | .label _ => some (.code .normal s)
  | .region _ ops draws =>
   if draws then
    if drawOK C fn ops then
     match runDraws rec fn ops (List.range ops.size) s with
     | some s' => some (.code .normal s')
     | none => none
    else none
   else match runOps rec fn ops (List.range ops.size) s with
    | some s' => some (.code .normal s')
    | none => none
  | .seq a b => match runCode rec fn rd a s with
   | some (.normal, s1) => match runCode rec fn rd b s1 with
    | some (x, s2) => some (.code x s2)
    | none => none
   | some (x, s1) => some (.code x s1)
   | none => none
  | .cond c a b => match Az s.σ c with
   | .d (.v (.bool t)) => match runCode rec fn rd (if t then a else b) s with
    | some (x, s1) => some (.code x s1)
    | none => none
   | _ => none
  | .block id a => match runCode rec fn rd a s with
   | some (x, s1) => some (.code (x.inBlock id) s1)
   | none => none
  | .loop a => match runCode rec fn rd a s with
   | some (.normal, s1) => match runCode rec fn rd (.loop a) s1 with
    | some (x, s2) => some (.code x s2)
    | none => none
   | some (x, s1) => some (.code x s1)
   | none => none
  | .exit id => some (.code (.exit id) s)
  | .goto l => some (.code (.goto l) s)
  | .ret => some (.code .ret s)
  | _ => none
 | .ops fn ops l s => match l with
  | [] => some (.ops s)
  | i :: r => match (match stepF C fn ops i s with | some s1 => some s1 | none => callStep C rec fn ops i s) with
   | some s1 => match runOps rec fn ops r s1 with
    | some s2 => some (.ops s2)
    | none => none
   | none => none
 | .draws fn ops l s => match l with
  | [] => some (.ops s)
  | i :: r => match (match stepD C fn ops i s with | some s1 => some s1 | none => if ((ops[i]?).map fun o => Bc C fn o == 3).getD false then callStep C rec fn ops i s else if ((ops[i]?).map fun o => Bc C fn o == 6).getD false then onlyKept s.h (callStep C rec fn ops i s) else none) with
   | some s1 => match runDraws rec fn ops r s1 with
    | some s2 => some (.ops s2)
    | none => none
   | none => none
 | .call f args h => match C.P.funcs[f]? with
  | some fd => match fd.body with
   | some c => match splitD c with
    | none => match runCode rec f false c { σ := args ++ List.replicate (fd.ntmps - args.length) B7, h := h } with
     | some (.normal, s) | some (.ret, s) => match Cw C fd s with
      | some a => some (.val a s.h)
      | none => none
     | _ => none
    | some (c0, id, ops, o, cal, fop, c2) => match runCode rec f false c0 { σ := args ++ List.replicate (fd.ntmps - args.length) B7, h := h } with
     | some (.normal, s0) => match runOps rec f ops (List.range (ops.size - 1)) s0 with
      | some s1 => match BO (Az s1.σ fop) with
       | some (.fn (.func g), first, cap) =>
        if C.quiet g && hasBody C g then
         match runCode rec f false c2 (s1.put o.dst B7 s1.h) with
         | some (.normal, s) | some (.ret, s) => match Cw C fd s with
          | some a => some (.val a s.h)
          | none => none
         | _ => none
        else none
       | _ => none
      | none => none
     | _ => none
   | none => none
  | none => none
 | .yld _ _ _ _ => none
def run (C : Ctx) : Nat → Rec
 | 0 => fun _ => none
 | n + 1 => By C (run C n)
variable {C : Ctx} {O : Task → Res → Prop}
theorem B8 {rec : Rec} (hrec : ∀ t r, rec t = some r → Ev C O t r) {fn : FuncId} {rd : Bool} {c : Code} {s s' : St} {x : X} (h : runCode rec fn rd c s = some (x, s')) : Ev C O (.code fn rd c s) (.code x s') := by
 unfold runCode at h
 split at h
 ·rename_i e; simp only [Option.some.injEq, Prod.mk.injEq] at h; obtain ⟨rfl, rfl⟩ := h; exact hrec _ _ e
 ·cases h
theorem runOps_ev {rec : Rec} (hrec : ∀ t r, rec t = some r → Ev C O t r) {fn : FuncId} {ops : Array Oper} {l : List Nat} {s s' : St} (h : runOps rec fn ops l s = some s') : Ev C O (.ops fn ops l s) (.ops s') := by
 unfold runOps at h
 split at h
 ·rename_i e; cases h; exact hrec _ _ e
 ·cases h
theorem runDraws_ev {rec : Rec} (hrec : ∀ t r, rec t = some r → Ev C O t r) {fn : FuncId} {ops : Array Oper} {l : List Nat} {s s' : St} (h : runDraws rec fn ops l s = some s') : Ev C O (.draws fn ops l s) (.ops s') := by
 unfold runDraws at h
 split at h
 ·rename_i e; cases h; exact hrec _ _ e
 ·cases h
theorem runVal_ev {rec : Rec} (hrec : ∀ t r, rec t = some r → Ev C O t r) {t : Task} {a : AV} {h' : H} (h : runVal rec t = some (a, h')) : Ev C O t (.val a h') := by
 unfold runVal at h
 split at h
 ·rename_i e; simp only [Option.some.injEq, Prod.mk.injEq] at h; obtain ⟨rfl, rfl⟩ := h; exact hrec _ _ e
 ·cases h
theorem callStep_ev {rec : Rec} (hrec : ∀ t r, rec t = some r → Ev C O t r) {fn : FuncId} {ops : Array Oper} {i : Nat} {r : List Nat} {s s1 s2 : St} (h : callStep C rec fn ops i s = some s1) (h2 : Ev C O (.ops fn ops r s1) (.ops s2)) :
  Ev C O (.ops fn ops (i :: r) s) (.ops s2) := by
 unfold callStep at h
 split at h
 ·rename_i o ho
  split at h
  ·rename_i hw
   split at h
   ·rename_i c hop
    split at h
    ·rename_i f hcal
     split at h
     ·rename_i g first cap hg
      split at h
      ·rename_i hb
       split at h
       ·rename_i a h1 hv
        cases h
        exact .callOp fn ops i r s s2 o c f g first cap a h1 ho hw hop hcal hg (B9 hb) (runVal_ev hrec hv) h2
       ·cases h
      ·cases h
     ·cases h
    ·rename_i rv m hcal
     split at h
     ·rename_i g recv hg
      split at h
      ·rename_i hb
       split at h
       ·rename_i a h1 hv
        cases h
        exact .invOp fn ops i r s s2 o c rv m g recv a h1 ho hw hop hcal hg (B9 hb) (runVal_ev hrec hv) h2
       ·cases h
      ·cases h
     ·cases h
    ·cases h
   ·cases h
  ·cases h
 ·cases h
theorem callStep_dev {rec : Rec} (hrec : ∀ t r, rec t = some r → Ev C O t r) {fn : FuncId} {ops : Array Oper} {i : Nat} {r : List Nat} {s s1 s2 : St} (h : callStep C rec fn ops i s = some s1) (hc : ∀ o, ops[i]? = some o → BigC C fn o s.h s1.h) (h2 : Ev C O (.draws fn ops r s1) (.ops s2)) :
  Ev C O (.draws fn ops (i :: r) s) (.ops s2) := by
 unfold callStep at h
 split at h
 ·rename_i o ho
  split at h
  ·rename_i hw
   split at h
   ·rename_i c hop
    split at h
    ·rename_i f hcal
     split at h
     ·rename_i g first cap hg
      split at h
      ·rename_i hb
       split at h
       ·rename_i a h1 hv
        cases h
        exact .dcall fn ops i r s s2 o c f g first cap a h1 ho (by have := hc o ho; rwa [put_h] at this) hw hop hcal hg (B9 hb) (runVal_ev hrec hv) h2
       ·cases h
      ·cases h
     ·cases h
    ·rename_i rv m hcal
     split at h
     ·rename_i g recv hg
      split at h
      ·rename_i hb
       split at h
       ·rename_i a h1 hv
        cases h
        exact .dinv fn ops i r s s2 o c rv m g recv a h1 ho (by have := hc o ho; rwa [put_h] at this) hw hop hcal hg (B9 hb) (runVal_ev hrec hv) h2
       ·cases h
      ·cases h
     ·cases h
    ·cases h
   ·cases h
  ·cases h
 ·cases h
theorem stepRun_ev {rec : Rec} (hrec : ∀ t r, rec t = some r → Ev C O t r) : ∀ t r, By C rec t = some r → Ev C O t r := by
 intro t r h
 cases t with
 | code fn rd c s =>
  cases c with
  | skip => simp only [By, Option.some.injEq] at h; subst h; exact .skip _ _ _
  | label l => simp only [By, Option.some.injEq] at h; subst h; exact .label _ _ _ _
  | exit id => simp only [By, Option.some.injEq] at h; subst h; exact .exit _ _ _ _
  | goto l => simp only [By, Option.some.injEq] at h; subst h; exact .goto _ _ _ _
  | ret => simp only [By, Option.some.injEq] at h; subst h; exact .ret _ _ _
  | region id ops draws =>
   simp only [By] at h
   cases draws with
   | true =>
    simp only [if_true] at h
    split at h
    ·rename_i hd
     split at h
     ·rename_i s' e
      cases h
      exact .draw _ _ _ _ _ _ hd (runDraws_ev hrec e)
     ·cases h
    ·cases h
   | false =>
    simp only [Bool.false_eq_true, if_false] at h
    split at h
    ·rename_i s' e
     cases h
     exact .region _ _ _ _ _ _ (runOps_ev hrec e)
    ·cases h
  | seq a b =>
   simp only [By] at h
   split at h
   ·rename_i s1 e1
    split at h
    ·rename_i x s2 e2
     cases h
     exact .seq _ _ _ _ _ _ _ _ (B8 hrec e1) (B8 hrec e2)
    ·cases h
   ·rename_i x s1 hx e1
    cases h
    exact .seqX _ _ _ _ _ _ _ (B8 hrec e1) (fun he => by subst he; exact hx rfl)
   ·cases h
  | cond c a b =>
   simp only [By] at h
   split at h
   ·rename_i t e
    split at h
    ·rename_i x s1 e1
     cases h
     exact .cond _ _ _ _ _ _ _ _ t e (B8 hrec e1)
    ·cases h
   ·cases h
  | block id a =>
   simp only [By] at h
   split at h
   ·rename_i x s1 e1
    cases h
    exact .block _ _ _ _ _ _ _ (B8 hrec e1)
   ·cases h
  | loop a =>
   simp only [By] at h
   split at h
   ·rename_i s1 e1
    split at h
    ·rename_i x s2 e2
     cases h
     exact .loop _ _ _ _ _ _ _ (B8 hrec e1) (B8 hrec e2)
    ·cases h
   ·rename_i x s1 hx e1
    cases h
    exact .loopX _ _ _ _ _ _ (B8 hrec e1) (fun he => by subst he; exact hx rfl)
   ·cases h
  | _ => simp [By] at h
 | ops fn ops l s =>
  cases l with
  | nil => simp only [By, Option.some.injEq] at h; subst h; exact .nil _ _ _
  | cons i r =>
   simp only [By] at h
   split at h
   ·rename_i s1 e1
    split at h
    ·rename_i s2 e2
     cases h
     split at e1
     ·rename_i s1' e3
      simp only [Option.some.injEq] at e1; subst e1
      exact .step _ _ _ _ _ _ _ e3 (runOps_ev hrec e2)
     ·exact callStep_ev hrec e1 (runOps_ev hrec e2)
    ·cases h
   ·cases h
 | draws fn ops l s =>
  cases l with
  | nil => simp only [By, Option.some.injEq] at h; subst h; exact .dnil _ _ _
  | cons i r =>
   simp only [By] at h
   split at h
   ·rename_i s1 e1
    split at h
    ·rename_i s2 e2
     cases h
     split at e1
     ·rename_i s1' e3
      simp only [Option.some.injEq] at e1; subst e1
      exact .dstep _ _ _ _ _ _ _ e3 (runDraws_ev hrec e2)
     ·split at e1
      ·rename_i hc
       exact callStep_dev hrec e1 (fun o ho => .inl (by simpa [ho] using hc)) (runDraws_ev hrec e2)
      ·split at e1
       ·rename_i hc
        unfold onlyKept at e1
        split at e1
        ·rename_i s1' e4
         split at e1
         ·rename_i hk
          simp only [Option.some.injEq] at e1
          subst e1
          exact callStep_dev hrec e4 (fun o ho => .inr ⟨by simpa [ho] using hc, keptB_ok hk⟩) (runDraws_ev hrec e2)
         ·cases e1
        ·cases e1
       ·cases e1
    ·cases h
   ·cases h
 | call f args h0 =>
  simp only [By] at h
  split at h
  ·rename_i fd hf
   split at h
   ·rename_i c hb
    split at h
    ·split at h
     ·rename_i s e
      split at h
      ·rename_i a ha
       cases h
       exact .call _ _ _ fd c _ s a hf hb (B8 hrec e) (.inl rfl) ha
      ·cases h
     ·rename_i s e
      split at h
      ·rename_i a ha
       cases h
       exact .call _ _ _ fd c _ s a hf hb (B8 hrec e) (.inr rfl) ha
      ·cases h
     ·cases h
    ·rename_i c0 id ops o cal fop c2 hs
     obtain ⟨rfl, hz, ho, hgd, hop, hcal⟩ := splitD_eq hs
     split at h
     ·rename_i s0 e0
      split at h
      ·rename_i s1 e1
       split at h
       ·rename_i g first cap hg
        split at h
        ·rename_i hq
         simp only [Bool.and_eq_true] at hq
         split at h
         ·rename_i s e
          split at h
          ·rename_i a ha
           cases h
           exact .callD _ _ _ fd c0 c2 id ops _ s0 s1 s a o cal fop g first cap hf hb (B8 hrec e0) (runOps_ev hrec e1) hz ho hgd hop hcal hg hq.1 (B9 hq.2) (B8 hrec e) (.inl rfl) ha
          ·cases h
         ·rename_i s e
          split at h
          ·rename_i a ha
           cases h
           exact .callD _ _ _ fd c0 c2 id ops _ s0 s1 s a o cal fop g first cap hf hb (B8 hrec e0) (runOps_ev hrec e1) hz ho hgd hop hcal hg hq.1 (B9 hq.2) (B8 hrec e) (.inr rfl) ha
          ·cases h
         ·cases h
        ·cases h
       ·cases h
      ·cases h
     ·cases h
   ·cases h
  ·cases h
 | yld ys yg args h0 => simp [By] at h
theorem run_ev : ∀ (n : Nat) (t : Task) (r : Res), run C n t = some r → Ev C O t r
 | 0, t, r, h => by simp [run] at h
 | n + 1, t, r, h => stepRun_ev (run_ev n) t r h
end Go.Ev
namespace Go.Ev
open Go Go.RowKit
variable {C : Ctx} {B : Nat} {K : List Nat} {gh : Gh} {h : H} {w : World}
def resA (h : H) : AV → Option (List PV × H)
 | .tup l => if l.length = 1 then none else Ba h l
 | .d (.v (.tuple vs)) => if vs.isEmpty then some ([], h) else none
 | a => match freeze1 h a with
  | some (p, h1) => some ([p], h1)
  | none => none
theorem resA_out {a : AV} {v : Value} {rs : List PV} {h1 : H} (hI : Inv C B K gh h w) (ha : RA gh w a v) (e : resA h a = some (rs, h1)) :
  ∃ gh', Stp B gh w gh' w ∧ Inv C B K gh' h1 w ∧ RR gh'.F w rs v := by
 unfold resA at e
 split at e
 ·rename_i l
  split at e
  ·cases e
  ·rename_i hl
   cases ha with
   | tup _ vs hlen hr =>
    obtain ⟨gh', k, hI', hrp⟩ := freezeAll_out hI (vs := vs) ⟨hlen, hr⟩ e
    exact ⟨gh', k, hI', .many _ _ (by rw [hrp.1, ← hlen]; exact hl) hrp⟩
 ·rename_i vs
  split at e
  ·rename_i hv
   simp only [Option.some.injEq, Prod.mk.injEq] at e
   obtain ⟨rfl, rfl⟩ := e
   have := ha.eq_v
   subst this
   obtain rfl : vs = #[] := by simpa using hv
   exact ⟨gh, .refl _ _ _, hI, .many [] [] (by simp) ⟨rfl, fun i p v hp => by simp at hp⟩⟩
  ·cases e
 ·split at e
  ·rename_i p h2 ef
   simp only [Option.some.injEq, Prod.mk.injEq] at e
   obtain ⟨rfl, rfl⟩ := e
   obtain ⟨gh', k, hI', hr⟩ := freeze1_out hI ha ef
   exact ⟨gh', k, hI', .one _ _ hr⟩
  ·cases e
theorem RPs.toRL {F : Nat → Nat → Prop} (hF : ∀ b o, F b o → gh.F b o) {ps : List PV} {vs : List Value} (h : RPs F w ps vs) : RL gh w (ps.map ofPV) vs :=
 ⟨by simp [h.1], fun i a x ha hx => by
  simp only [List.getElem?_map, Option.map_eq_some_iff] at ha
  obtain ⟨p, hp, rfl⟩ := ha
  exact (h.2 i p x hp hx).toRA hF⟩
theorem H.get_empty (s g : Nat) : H.get {} s g = none := by simp [H.get, Bl]
theorem sat_of_mf {g : FuncId} {spec : List PV → Option (List PV)}
  (h : ∀ ps rs, spec ps = some rs → ∃ a h1 h2, MF C g (ps.map ofPV) {} a h1 ∧ resA h1 a = some (rs, h2)) : AJ C g spec := by
 intro ps rs hs F w vs hF hG hvs
 obtain ⟨a, h1, h2, hm, hr⟩ := h ps rs hs
 let gh : Gh := { J := fun _ _ => none, T := fun _ _ => none, F := F, Z := fun _ => 0 }
 have hI : Inv C w.heap.size [] gh {} w := {
  size := Nat.le_refl _
  dom := fun s g b e => by cases e
  back := fun s g o e => by rw [H.get_empty] at e; cases e
  inj := fun s g s' g' b e => by cases e
  tok := fun s t e => by cases e
  tinj := fun s s' t t' e => by cases e
  tfresh := fun s g _ => rfl
  kept := fun D hD => by cases hD
  glob := hG
  fsize := hF }
 have hc := hm none 0 w.heap.size [] gh w vs hI (hvs.toRL fun _ _ h => h)
 refine (hc.calls fun k d hd => by simp [fz] at hd).mono ?_
 rintro e w' ⟨v, rfl, gh', k, hI', hra⟩
 obtain ⟨gh'', k', hI'', hrr⟩ := resA_out hI' hra hr
 have kk := k.trans k'
 exact ⟨v, gh''.F, rfl, kk.below, kk.le.F, fun b o e hb => kk.new b o e hb, hI''.fsize, hrr⟩
theorem Af {O : Task → Res → Prop} (hP : Aw C) (hO : ∀ t r, O t r → Mot C t r) (hm : C.P.follows .mixedOrders = true) {g : FuncId} {spec : List PV → Option (List PV)}
  (h : ∀ ps rs, spec ps = some rs → ∃ a h1 h2, Ev C O (.call g (ps.map ofPV) {}) (.val a h1) ∧ resA h1 a = some (rs, h2)) : AJ C g spec :=
 sat_of_mf fun ps rs hs => by
  obtain ⟨a, h1, h2, he, hr⟩ := h ps rs hs
  exact ⟨a, h1, h2, he.sound hP hO hm, hr⟩
theorem AJ.ctx {C' : Ctx} {g : FuncId} {spec : List PV → Option (List PV)} (hP : C'.P = C.P) (hg : C'.glob = C.glob) (h : AJ C g spec) : AJ C' g spec := by
 intro ps rs hs F w vs hF hG hvs
 rw [hP]
 refine h ps rs hs F w vs hF ?_ hvs
 unfold GlobF at hG ⊢
 rw [← hg]; exact hG
def Ab : Task → Res → Prop := fun _ _ => False
theorem sat_of_run (hP : Aw C) (hm : C.P.follows .mixedOrders = true) {g : FuncId} {spec : List PV → Option (List PV)}
  (h : ∀ ps rs, spec ps = some rs → ∃ n a h1 h2, run C n (.call g (ps.map ofPV) {}) = some (.val a h1) ∧ resA h1 a = some (rs, h2)) : AJ C g spec :=
 Af (O := Ab) hP (fun _ _ h => h.elim) hm fun ps rs hs => by
  obtain ⟨n, a, h1, h2, he, hr⟩ := h ps rs hs
  exact ⟨a, h1, h2, run_ev n _ _ he, hr⟩
end Go.Ev
