/- AbstTells: for every input the law's function answers true, and its argument reads as it did: the row, and its tied card. No condition beyond the row's own. -/
import Derived.Test.YtbgdnghnfdijnaaGreatDoorMJ
import Derived.Test.YtbgdnghnfdijnaaGreatDoorCards
import Derived.Test.YtbgdnghnfdijnaaGreatDoorTie
import Derived.SevenTiedAt
set_option linter.unusedVariables false
set_option linter.unusedSimpArgs false
namespace Go.Proofs.YtbgdnghnfdijnaaGreatDoor
open Go Go.Ev Go.RowKit Go.ChangeShapes Go.WideShapes Go.ChangeAt
theorem door_met (os : Os) (args : Array Value) : laidMetH Tryz.prog laidL ((World.doorLaid Tryz.prog 400 os).forCall (fun _ _ => 0) ⟨#[], args, []⟩).memory :=
 laidMetH_of_parts3 (fuel := 8) (laidMet_of_run' 8 (by kernel_rfl) (by kernel_rfl)) (by kernel_rfl) (by kernel_rfl)
set_option maxRecDepth 100000 in
theorem okWide_struct {W : World} {base t : Nat} {v : Value} {fs : Array Field} (ht : Tryz.prog.underlying t = some (.struct fs)) (h : Value.okWide Tryz.prog W .any base t v) : ∃ cs, v = .agg cs := by
 unfold Value.okWide at h
 rw [ht] at h
 obtain ⟨cs, e, _⟩ := h
 exact ⟨cs, e⟩
set_option maxRecDepth 100000 in
theorem tells_lifted (os : Os) (started : os.Started) (H : Type) (enc : TypeId × Value → H) :
  ReturnsInHanded {} Tryz.checked os 3 .any (fun w args => (Rows.abstTellsSpec.pre enc Tryz.prog Tryz.f3 [] false w args ∧ laidMetH Tryz.prog laidL w) ∧ sizedMet enc Tryz.prog Tryz.f3 (OpenSpec.ofChange Rows.abstTellsSpec) false w args)
   (Rows.abstTellsSpec.post enc Tryz.prog Tryz.f3 false true false false) := by
 refine returnsInHanded_of_change_and (C := Tryz.checked) (X := fun w _ => laidMetH Tryz.prog laidL w) (fun _ _ _ hh h => h.of_heap hh) Go.Ev.own started (by kernel_rfl) Tryz.func3
  (ChangeSpec.witness_shaped (enc := enc) (C := Tryz.checked) (os := os) (X := fun w _ => laidMetH Tryz.prog laidL w) false (World.doorLaid Tryz.prog 400 os) #[.agg #[.slice none 0 0, .slice none 0 0, .slice none 0 0, .slice none 0 0, .slice none 0 0, .slice none 0 0, .int .i64 0]] 8 rfl (World.shaped_of_RefB (by kernel_rfl) (by kernel_rfl)) (by kernel_rfl) (by kernel_rfl) (by kernel_rfl) (door_met os _)) ?_
 intro W base args ds gs before hval0 hW _ hsz hL _
 have hval : ∀ (j : Nat) t v, Tryz.f3.params[j]? = some t → args[j]? = some v → Value.okWide Tryz.prog W .any base t v := hval0
 have hW' := hW
 obtain ⟨p, q, hA0, hV, rfl, hfz, hnd⟩ := hW
 have hA : DataW.TrodAll enc Tryz.prog W 0 (fun _ => true) true Tryz.f3.params.toList args.toList ds p := hA0
 rw [Tryz.params3] at hA hval
 obtain ⟨v0, d0, rfl, rfl, h0⟩ := trodAll_one hA
 obtain ⟨rfl, rfl⟩ := trodVars_none hV
 clear hA0 hval0
 obtain ⟨arr, rfl⟩ := okWide_struct Tryz.underlying35 (hval 0 35 v0 rfl rfl)
 obtain ⟨n, h0⟩ := h0
 have hw : ∀ k ∈ d0.weights Tryz.prog 35, k ≤ reachBytes := fun k hk => by
  have hsz : ((DataW.weightsEach Tryz.prog (Tryz.f3.params.toList ++ DataSpec.varTypes Tryz.prog Rows.abstTellsSpec.plain) ([d0] ++ [])).all fun x => decide (x ≤ reachBytes)) = true := hsz
  rw [Tryz.params3, List.all_eq_true] at hsz
  exact of_decide_eq_true (hsz k (by
   show k ∈ DataW.weightsEach Tryz.prog (35 :: _) (d0 :: _)
   unfold DataW.weightsEach
   exact List.mem_append_left _ hk))
 obtain ⟨r, ⟨w, i, k, rfl⟩, hr, hl, hrd⟩ := r_tellsIn (enc := enc) (W := W) n _ (d0, p) h0 hw
 have r0 : RP (FW W) W (.agg (teC w i)) (.agg arr) := by
  have := RP.agg (F := FW W) (w := W) (teC w i) arr.toList (hr.trans hl.symm) hrd
  simpa using this
 refine calls_true (C := C0) (f := Tryz.f3) (ps := [.agg (teC w i)]) rfl rfl te_sat ?_ rfl hW' rfl rfl rfl rfl ⟨rfl, fun i p v hp hv => ?_⟩ hL (teS_at k i)
 ·have h : (Tryz.f3.params.toList.all fun t => decide (t < Tryz.prog.types.size)) = true := by kernel_rfl
  intro t ht
  rw [List.all_eq_true] at h
  simpa using h t ht
 ·match i, hp, hv with
  | 0, hp, hv => simp at hp hv; subst hp; subst hv; exact r0
  | j + 1, hp, hv => simp at hp
theorem tells_row : Rows.AbstTellsSaid :=
 OpenClaim.holds_of_wide 3 Tryz.f3 rfl rfl rfl rfl rfl rfl rfl ⟨rfl, rfl, rfl, rfl, rfl⟩ rfl rfl rfl rfl rfl (by kernel_rfl) Tryz.func3 (by kernel_rfl)
  (of_decide_eq_true (by kernel_rfl)) (by unfold Func.isWrapper; first | (rw [if_pos (by decide +kernel)]; kernel_rfl) | (rw [if_neg (by decide +kernel)]; exact ⟨rfl, rfl⟩))
  (fun os started H enc _ => tells_lifted os started H enc)
theorem tells_holds : Rows.AbstTellsCardSaid :=
 Claim7.holds_tied_plain_at .later [] [.data, .data, .data] true (true, "6d935e182f7c10670bf67341f95ba7831dca1c68585674185f83d606edb085fc") true
  tells_row (fun _ h => by cases h) (by kernel_rfl) (fun _ h => by cases h) abstTells_row_tie rfl ⟨rfl, rfl⟩ (by kernel_rfl) rfl
  (fun f fn hf hfn => by
   obtain rfl : f = 3 := Option.some.inj ((show Tryz.prog.funcNamed "turnspit/turnspitlaw21.AbstTells" = some 3 by kernel_rfl).symm.trans hf) |>.symm
   obtain rfl : fn = Tryz.f3 := (Option.some.inj (Tryz.func3.symm.trans hfn)).symm
   exact ⟨by kernel_rfl, fun j t ht => by
    rw [Tryz.params3] at ht
    have hm : t ∈ [35] := by simpa using Array.mem_of_getElem? ht
    have hall : ([35].all fun u => !Tryz.prog.wantsStandIn u) = true := by kernel_rfl
    exact (show Tryz.prog.wantsStandIn t = false by simpa using List.all_eq_true.1 hall t hm)⟩)
  (by kernel_rfl)
#print axioms tells_holds
end Go.Proofs.YtbgdnghnfdijnaaGreatDoor
