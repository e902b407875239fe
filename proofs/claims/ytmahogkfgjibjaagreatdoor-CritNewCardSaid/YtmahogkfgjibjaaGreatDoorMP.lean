/- What the proof of this claim needs: part MP. No conditions. -/
import Derived.Test.YtmahogkfgjibjaaGreatDoorMK
import Derived.RecoverIn
import Derived.TacticsInMore
import Derived.Test.YtmahogkfgjibjaaGreatDoorMK7
import Derived.Test.YtmahogkfgjibjaaGreatDoorMB
import Derived.Test.YtmahogkfgjibjaaGreatDoorMR1
import Derived.Test.YtmahogkfgjibjaaGreatDoorMR2
import Derived.Test.YtmahogkfgjibjaaGreatDoorMD1
import Derived.Test.YtmahogkfgjibjaaGreatDoorMD2
import Derived.Test.YtmahogkfgjibjaaGreatDoorMD3
set_option linter.unusedVariables false
set_option linter.unusedSimpArgs false

namespace Go.Ev
open Go Go.RowKit Go.Proofs

theorem put_eval {a : Act} {d : Nat} {v : Value} (h : d < a.tmps.size) : (a.put (some d) v).eval (.tmp d) = v := by
  simp [Act.put, Act.eval, h]
theorem put_size {a : Act} {d : Option Tmp} {v : Value} : (a.put d v).tmps.size = a.tmps.size := by
  cases d <;> simp [Act.put]
theorem quiet228 : Quiet Tryz.prog 228 := by
  intro r n args w
  refine callsDIn_of_wpSIn Tryz.func228 rfl trivial fun c₀ cs hu => ?_
  have hsz : 9 < (args ++ Array.replicate (Tryz.f228.ntmps - args.size) undef).size := by
    rw [Tryz.ntmps228]; simp; omega
  generalize args ++ Array.replicate (Tryz.f228.ntmps - args.size) undef = tmps at hsz
  apply wpSIn_seq
  apply wpSIn_region
  have h2 : 2 < tmps.size := by omega
  have h3 : 3 < tmps.size := by omega
  have h4 : 4 < tmps.size := by omega
  have h5 : 5 < tmps.size := by omega
  simp [wpOpsSIn, go_sem, recoverD, hu, Exit.thenS, h3]
  apply wpSIn_seq
  apply wpSIn_region
  simp [wpOpsSIn, go_sem, Exit.thenS, h2, h3, h4, h5]
  refine wpSIn_cond (t := false) (by simp [Act.eval, h5]) ?_
  simp only [Bool.false_eq_true, if_false]
  refine fun b k hb hr hF hroom => ⟨.normal, _, _, w, rfl, ?_, .one (fenced_calm hF hroom rfl) stepR_skip⟩
  cases c₀
  simp_all [bodyPostS, results, Tryz.results228, Below.refl]
end Go.Ev

namespace Go.Ev
open Go Go.RowKit Go.Proofs

noncomputable def Cb : Ctx := { C0 with quiet := fun _ => false, clone := fun _ => none }
theorem hPb : PrimOK Cb := ⟨fun g spec h => (by cases h), fun g h => (by cases h), fun g sz h => (by cases h)⟩
theorem fits_ok {n by_ : Nat} (hn : n < 2 ^ 30) (hb : by_ ≤ 1024) : fitsP 0 n by_ := by
  have h1 : (2 * (0 + n) + 1000) * by_ ≤ (2 * (0 + n) + 1000) * 1024 := Nat.mul_le_mul_left _ hb
  have h2 : n ≤ 1073741823 := Nat.le_of_lt_succ hn
  have h3 : (2 * (0 + n) + 1000) * 1024 ≤ (2 * (0 + 1073741823) + 1000) * 1024 := Nat.mul_le_mul_right _ (by omega)
  exact Nat.le_trans h1 (Nat.le_trans h3 (of_decide_eq_true rfl))
theorem clone_any {g sz by_ s : Nat} (hb : by_ ≤ 1024)
    (h1 : ∀ (full : Bool) (rows : List (List DV)), sym Cb noO 60 (.call g [.d (.sl sz full rows)] {}) [(s, .app false)] =
      some (.val (.hs s 0 0 (0 + rows.length) sz) (({} : H).push s (.cells ([] ++ rows.flatten.map .d) false)), [], [rows.isEmpty = false ∧ fitsP 0 rows.length by_]))
    (h2 : ∀ full : Bool, sym Cb noO 60 (.call g [.d (.sl sz full [])] {}) [] = some (.val (.d (.sl sz true [])) {}, [], []))
    (h3 : sym Cb noO 60 (.call g [.d (.v (.slice none 0 0))] {}) [] = some (.val (.d (.v (.slice none 0 0))) {}, [], [])) : CloneOK Cb g sz :=
  cloneOK_of_ev hPb hm0 ⟨_, sym_ev _ _ _ _ _ _ h3 AllP_nil⟩ (fun full => ⟨_, sym_ev _ _ _ _ _ _ (h2 full) AllP_nil⟩) (fun full rows hne hlt => by
    have h := sym_ev _ _ _ _ _ _ (h1 full rows) (AllP_cons ⟨by cases rows with | nil => exact absurd rfl hne | cons => rfl, fits_ok hlt hb⟩ AllP_nil)
    rw [Nat.zero_add] at h
    refine ⟨_, h, ?_⟩
    simp [H.get, H.push, lookS, putS])
theorem clone53 : CloneOK Cb 53 1 := clone_any (s := site 53 7) (by_ := 8) (by decide) (fun _ _ => by kernel_rfl) (fun _ => by kernel_rfl) (by kernel_rfl)
theorem clone54 : CloneOK Cb 54 3 := clone_any (s := site 54 7) (by_ := 24) (by decide) (fun _ _ => by kernel_rfl) (fun _ => by kernel_rfl) (by kernel_rfl)
theorem clone55 : CloneOK Cb 55 7 := clone_any (s := site 55 7) (by_ := 88) (by decide) (fun _ _ => by kernel_rfl) (fun _ => by kernel_rfl) (by kernel_rfl)
theorem clone56 : CloneOK Cb 56 2 := clone_any (s := site 56 7) (by_ := 32) (by decide) (fun _ _ => by kernel_rfl) (fun _ => by kernel_rfl) (by kernel_rfl)
theorem clone57 : CloneOK Cb 57 1 := clone_any (s := site 57 7) (by_ := 24) (by decide) (fun _ _ => by kernel_rfl) (fun _ => by kernel_rfl) (by kernel_rfl)
theorem clone100 : CloneOK Cb 100 1 := clone_any (s := site 100 7) (by_ := 8) (by decide) (fun _ _ => by kernel_rfl) (fun _ => by kernel_rfl) (by kernel_rfl)
theorem clone130 : CloneOK Cb 130 6 := clone_any (s := site 130 7) (by_ := 40) (by decide) (fun _ _ => by kernel_rfl) (fun _ => by kernel_rfl) (by kernel_rfl)
theorem clone134 : CloneOK Cb 134 2 := clone_any (s := site 134 7) (by_ := 16) (by decide) (fun _ _ => by kernel_rfl) (fun _ => by kernel_rfl) (by kernel_rfl)
theorem clone198 : CloneOK Cb 198 2 := clone_any (s := site 198 7) (by_ := 16) (by decide) (fun _ _ => by kernel_rfl) (fun _ => by kernel_rfl) (by kernel_rfl)
theorem hP0 : PrimOK C0 := by
  refine ⟨fun g spec h => (by cases h), fun g h => ?_, fun g sz h => ?_⟩
  · have : g = 228 := by simpa [C0] using h
    subst this
    exact quiet228
  · have h' : clones g = some sz := h
    unfold clones at h'
    split at h' <;> simp only [Option.some.injEq, reduceCtorEq] at h'
    · subst h'; exact ⟨clone53, by kernel_rfl⟩
    · subst h'; exact ⟨clone54, by kernel_rfl⟩
    · subst h'; exact ⟨clone55, by kernel_rfl⟩
    · subst h'; exact ⟨clone56, by kernel_rfl⟩
    · subst h'; exact ⟨clone57, by kernel_rfl⟩
    · subst h'; exact ⟨clone100, by kernel_rfl⟩
    · subst h'; exact ⟨clone130, by kernel_rfl⟩
    · subst h'; exact ⟨clone134, by kernel_rfl⟩
    · subst h'; exact ⟨clone198, by kernel_rfl⟩
theorem hP1 : PrimOK C1 := addRun_ok hP0 hm0 500 _
theorem hP2 : PrimOK C2 := addRun_ok hP1 hm0 500 _
theorem hP3 : PrimOK C3 := addRun_ok hP2 hm0 500 _
theorem hP4 : PrimOK C4 := addRun_ok hP3 hm0 500 _
theorem hP5 : PrimOK C5 := addRun_ok hP4 hm0 500 _
theorem hP6 : PrimOK C6 := addRun_ok hP5 hm0 500 _
theorem hPA : PrimOK CA := addRun_ok hP6 hm0 500 _
end Go.Ev

namespace Go.Ev
open Go Go.RowKit Go.Proofs

def Known (C : Ctx) (g : FuncId) (p : List PV × List PV) : Prop := ∃ (D : Ctx) (n : Nat), PrimOK D ∧ D.P = C.P ∧ D.glob = C.glob ∧ runSpec D n g p.1 = some p.2
def AllK (C : Ctx) (g : FuncId) (l : Pts) : Prop := ∀ p ∈ l, Known C g p
theorem AllK.nil {C : Ctx} {g : FuncId} : AllK C g [] := fun p h => by cases h
theorem AllK.cons {C : Ctx} {g : FuncId} {p : List PV × List PV} {l : Pts} (h : Known C g p) (hl : AllK C g l) : AllK C g (p :: l) := fun q hq => by
  rcases List.mem_cons.1 hq with rfl | hq
  · exact h
  · exact hl q hq
theorem addAt_known {C : Ctx} (hP : PrimOK C) (hm : C.P.follows .mixedOrders = true) {g : FuncId} {l : Pts} (h : AllK C g l) (hb : hasBody C g = true) : PrimOK (addAt C g l) := by
  refine ⟨?_, hP.2⟩
  intro f spec e
  simp only [addAt] at e
  split at e
  · rename_i hc
    simp only [Option.some.injEq] at e
    subst e
    have hc : f = g := by simpa using hc
    subst hc
    refine ⟨fun ps rs hs => ?_, hasBody_eq hb⟩
    obtain ⟨D, n, hD, e1, e2, e3⟩ := h _ (atB_mem hs)
    exact ((sat_runSpec hD (e1 ▸ hm) n f).ctx (C' := addAt C f l) e1.symm e2.symm) ps rs e3
  · obtain ⟨h1, h2⟩ := hP.1 f spec e
    exact ⟨h1.ctx rfl rfl, h2⟩
theorem rightK {C : Ctx} (e1 : C.P = C6.P) (e2 : C.glob = C6.glob) : AllK C 20 rightP :=
  have k : ∀ {W : PV}, runSpec C6 500 20 [W] = some [pbool true] → Known C 20 ([W], yes) := fun h => ⟨C6, 500, hP6, e1.symm, e2.symm, h⟩
  .cons (k right_W0) (.cons (k right_W2) (.cons (k right_W3) (.cons (k right_W4) (.cons (k right_W5) (.cons (k right_W6) .nil)))))
theorem hP7 : PrimOK C7 := addAt_known hP6 hm0 (rightK rfl rfl) (by kernel_rfl)
theorem hPB : PrimOK CB := addAt_known hPA hm0 (rightK rfl rfl) (by kernel_rfl)
noncomputable def C8a : Ctx := addAt C7 4 newP
noncomputable def C8b : Ctx := addAt C8a 17 wokenP
noncomputable def C8c : Ctx := addAt C8b 16 doP
noncomputable def C8d : Ctx := addAt C8c 18 askP
theorem hP8a : PrimOK C8a := addAt_known hP7 hm0 (.cons ⟨C1, 500, hP1, rfl, rfl, new_2⟩ .nil) (by kernel_rfl)
theorem hP8b : PrimOK C8b := addAt_known hP8a hm0 (.cons ⟨C5, 500, hP5, rfl, rfl, woken_W1⟩ .nil) (by kernel_rfl)
theorem hP8c : PrimOK C8c := addAt_known hP8b hm0 (.cons ⟨CB, 400, hPB, rfl, rfl, do_C⟩ (.cons ⟨C7, 400, hP7, rfl, rfl, do_P⟩ (.cons ⟨C7, 400, hP7, rfl, rfl, do_M⟩ (.cons ⟨C7, 400, hP7, rfl, rfl, do_S⟩ (.cons ⟨C7, 400, hP7, rfl, rfl, do_T⟩ .nil))))) (by kernel_rfl)
theorem hP8d : PrimOK C8d := addAt_known hP8c hm0 (.cons ⟨C7, 400, hP7, rfl, rfl, ask_M⟩ .nil) (by kernel_rfl)
theorem hP8 : PrimOK C8 := addAt_known (C := C8d) hP8d hm0 (.cons ⟨C7, 400, hP7, rfl, rfl, fin_S⟩ .nil) (by kernel_rfl)
def awakeSpec : List PV → Option (List PV)
  | [] => some [pbool true]
  | _ => none
theorem awake_sat : Sat C0 6 awakeSpec := by
  refine Sat.ctx (C := C8) rfl rfl fun ps rs hs => ?_
  unfold awakeSpec at hs
  split at hs
  · simp only [Option.some.injEq] at hs
    subst hs
    exact sat_runSpec hP8 hm0 400 6 [] _ awake_run
  · cases hs
end Go.Ev
