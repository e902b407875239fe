/- What the proof of this claim needs: part MG. No conditions. -/
import Derived.Test.YtbgdnghnfdijnaaGreatDoorMF
import Derived.Test.YtbgdnghnfdijnaaGreatDoorME
set_option linter.unusedVariables false
set_option linter.unusedSimpArgs false
namespace Go.Ev
open Go Go.RowKit Go.Proofs
def andI (m a : Int) : Int := IntKind.wrap .u64 (((BitVec.ofInt 64 m &&& BitVec.ofInt 64 a).toNat : Nat) : Int)
def andnI (m a : Int) : Int := IntKind.wrap .u64 (((BitVec.ofInt 64 m &&& ~~~(BitVec.ofInt 64 a)).toNat : Nat) : Int)
theorem bv_and (x y : BitVec 64) : x &&& ~~~y = 0#64 ↔ x &&& y = x := by
 constructor
 ·intro h
  apply BitVec.eq_of_getLsbD_eq
  intro i hi
  have := congrArg (fun z => BitVec.getLsbD z i) h
  simp only [BitVec.getLsbD_and, BitVec.getLsbD_not, BitVec.getLsbD_zero] at this ⊢
  cases hx : x.getLsbD i <;> cases hy : y.getLsbD i <;> simp_all
 ·intro h
  apply BitVec.eq_of_getLsbD_eq
  intro i hi
  have := congrArg (fun z => BitVec.getLsbD z i) h
  simp only [BitVec.getLsbD_and, BitVec.getLsbD_not, BitVec.getLsbD_zero] at this ⊢
  cases hx : x.getLsbD i <;> cases hy : y.getLsbD i <;> simp_all
theorem pow_le64 {n : Nat} (hn : n ≤ 64) : 2 ^ n ≤ 2 ^ 64 := Nat.pow_le_pow_right (by decide) hn
theorem and_mod {m n : Nat} (hm : m < 2 ^ 64) (hn : n ≤ 64) : (BitVec.ofInt 64 (m : Int) &&& BitVec.ofInt 64 ((2 ^ n - 1 : Nat) : Int)).toNat = m % 2 ^ n := by
 have := pow_le64 hn
 have hp : 0 < 2 ^ n := Nat.two_pow_pos n
 rw [BitVec.toNat_and, ofInt_nat hm, ofInt_nat (by omega), Nat.and_two_pow_sub_one_eq_mod]
theorem mod_eq_lt {m p : Nat} (hp : 0 < p) : (m % p = m) ↔ m < p := ⟨fun h => by rw [← h]; exact Nat.mod_lt _ hp, Nat.mod_eq_of_lt⟩
theorem andI_ne {m n : Nat} (hm : m < 2 ^ 64) (hn : n ≤ 64) : (andI m ((2 ^ n - 1 : Nat) : Int) != (m : Int)) = !decide (m < 2 ^ n) := by
 unfold andI
 rw [and_mod hm hn]
 have hp : 0 < 2 ^ n := Nat.two_pow_pos n
 have hle : m % 2 ^ n ≤ m := Nat.mod_le _ _
 rw [B1 (by omega) (by omega)]
 have := mod_eq_lt (m := m) hp
 by_cases h : m < 2 ^ n
 ·rw [this.2 h, decide_eq_true h]; simp
 ·have h1 : ¬ m % 2 ^ n = m := fun e => h (this.1 e)
  have h2 : ¬ ((m % 2 ^ n : Nat) : Int) = (m : Int) := by omega
  rw [decide_eq_false h]
  simpa using h2
theorem andnI_ne {m n : Nat} (hm : m < 2 ^ 64) (hn : n ≤ 64) : (andnI m ((2 ^ n - 1 : Nat) : Int) != 0) = !decide (m < 2 ^ n) := by
 unfold andnI
 have hp : 0 < 2 ^ n := Nat.two_pow_pos n
 have hb := bv_and (BitVec.ofInt 64 (m : Int)) (BitVec.ofInt 64 ((2 ^ n - 1 : Nat) : Int))
 have hmod := and_mod hm hn
 have hlt : (BitVec.ofInt 64 (m : Int) &&& ~~~(BitVec.ofInt 64 ((2 ^ n - 1 : Nat) : Int))).toNat < 2 ^ 64 := BitVec.isLt _
 have key : (BitVec.ofInt 64 (m : Int) &&& ~~~(BitVec.ofInt 64 ((2 ^ n - 1 : Nat) : Int))).toNat = 0 ↔ m < 2 ^ n := by
  rw [← mod_eq_lt (m := m) hp, ← hmod]
  constructor
  ·intro h
   have h1 : BitVec.ofInt 64 (m : Int) &&& ~~~(BitVec.ofInt 64 ((2 ^ n - 1 : Nat) : Int)) = 0#64 := BitVec.eq_of_toNat_eq (by rw [h]; rfl)
   rw [hb.1 h1, ofInt_nat hm]
  ·intro h
   have h1 : BitVec.ofInt 64 (m : Int) &&& BitVec.ofInt 64 ((2 ^ n - 1 : Nat) : Int) = BitVec.ofInt 64 (m : Int) := BitVec.eq_of_toNat_eq (by rw [h, ofInt_nat hm])
   rw [hb.2 h1]; rfl
 generalize (BitVec.ofInt 64 (m : Int) &&& ~~~(BitVec.ofInt 64 ((2 ^ n - 1 : Nat) : Int))).toNat = v at key hlt ⊢
 rw [B1 (by omega) (by omega)]
 by_cases h : m < 2 ^ n
 ·rw [key.2 h, decide_eq_true h]; rfl
 ·have h1 : ¬ v = 0 := fun e => h (key.1 e)
  have h2 : ¬ (v : Int) = 0 := by omega
  rw [decide_eq_false h]
  simpa using h2
noncomputable def CWg : Ctx := Ad C0 192 wofS
theorem hPWg : Aw CWg := A7 BN (wofP_sat.ctx rfl rfl) (by kernel_rfl)
theorem wg_call (n m l w : Int) : Cs CWg Ab 60 143 [.agg [di n, du m, di l]] [(A1 143 8, .prim [A5 w, A5 0])] = some ([A5 w], [], [wofS [A5 n] = some [A5 w, A5 0]]) := by kernel_rfl
def wgS : Spec
 | [.agg [.v (.int .i64 n), .v (.int .u64 _), .v (.int .i64 _)]] => if -20 ≤ n ∧ n ≤ 19 then some [A5 (wgt n)] else none
 | _ => none
theorem wofS_at {n : Int} (h : -20 ≤ n ∧ n ≤ 19) : wofS [A5 n] = some [A5 (wgt n), A5 0] := by simp only [wofS, A5, di]; rw [if_pos h]
theorem wg_sat : AJ C0 143 wgS := AJ.ctx (C := CWg) rfl rfl (Af (O := Ab) hPWg (fun _ _ h => h.elim) Bm fun ps rs hs => by
 unfold wgS at hs
 split at hs
 ·rename_i n m l
  split at hs
  ·rename_i hc
   simp only [Option.some.injEq] at hs
   subst hs
   exact A4 (wg_call n m l _) (A0 (wofS_at hc) A2)
  ·cases hs
 ·cases hs)
theorem wgS_at {t : Tsk} (h : -20 ≤ t.nice ∧ t.nice ≤ 19) : wgS [.agg t.cs] = some [A5 (wgt t.nice)] := by simp only [wgS, Tsk.cs, di]; rw [if_pos h]
noncomputable def CWd : Ctx := Ad C0 166 wofS
theorem hPWd : Aw CWd := A7 BN (wofD_sat.ctx rfl rfl) (by kernel_rfl)
theorem wd_call (wd tk qr lr sr bw : A8) (i n m l w : Int) : Cs CWd Ab 60 103 [.agg (AM wd tk qr lr sr bw), A5 i] [(A1 103 12, .row [di n, du m, di l]), (A1 103 15, .prim [A5 w, A5 0])] = some ([A5 w], [], [0 ≤ i ∧ tk[i.toNat]? = some [di n, du m, di l], wofS [A5 n] = some [A5 w, A5 0]]) := by kernel_rfl
noncomputable def wdV (i : Int) : Option Wld → Option (List PV)
 | some w => if 0 ≤ i then match w.tasks[i.toNat]? with
  | some t => if -20 ≤ t.nice ∧ t.nice ≤ 19 then some [A5 (wgt t.nice)] else none
  | none => none
  else none
 | none => none
noncomputable def wdS : Spec
 | [.agg cs, .one (.v (.int .i64 i))] => wdV i (wldR cs)
 | _ => none
theorem trows_at {l : List Tsk} {i : Nat} {t : Tsk} (h : l[i]? = some t) : (Aq l)[((i : Nat) : Int).toNat]? = some t.cs := by simp [Aq, h]
theorem wrows_at {l : List Nat} {i : Nat} {x : Nat} (h : l[i]? = some x) : (An l)[((i : Nat) : Int).toNat]? = some [du (x : Int)] := by simp [An, h]
theorem wd_sat : AJ C0 103 wdS := AJ.ctx (C := CWd) rfl rfl (Af (O := Ab) hPWd (fun _ _ h => h.elim) Bm fun ps rs hs => by
 unfold wdS at hs
 split at hs
 ·rename_i cs i
  unfold wdV at hs
  split at hs
  ·rename_i w hw
   split at hs
   ·rename_i hi
    obtain ⟨j, rfl⟩ := Int.eq_ofNat_of_zero_le hi
    split at hs
    ·rename_i t ht
     split at hs
     ·rename_i hc
      simp only [Option.some.injEq] at hs
      subst hs
      rw [Int.toNat_natCast] at ht
      obtain ⟨rfl, ok⟩ := BY hw
      exact A4 (wd_call _ _ _ _ _ _ j t.nice t.mask t.lag _) (A0 ⟨by omega, trows_at ht⟩ (A0 (wofS_at hc) A2))
     ·cases hs
    ·cases hs
   ·cases hs
  ·cases hs
 ·cases hs)
theorem wdS_at {w : Wld} (ok : w.Ok) {i : Nat} {t : Tsk} (ht : w.tasks[i]? = some t) (h : -20 ≤ t.nice ∧ t.nice ≤ 19) : wdS [.agg w.cs, A5 i] = some [A5 (wgt t.nice)] := by
 show wdV i (wldR w.cs) = _
 rw [wldR_cs ok]
 simp only [wdV, Int.toNat_natCast, ht]
 rw [if_pos (by omega), if_pos h]
theorem sa_call (wd tk qr lr sr bw : A8) (i x k c s g : Int) (b : Bool) : Cs CDU Ab 60 61 [.agg (AM wd tk qr lr sr bw), A5 i] [(A1 61 12, .row [du x]), (A1 61 14, .prim [.agg (Bg k c s g b), A5 0])] = some ([.agg (Bg k c s g b)], [], [0 ≤ i ∧ wd[i.toNat]? = some [du x], AN [pu x] = some [.agg (Bg k c s g b), A5 0]]) := by kernel_rfl
noncomputable def saV (i : Int) : Option Wld → Option (List PV)
 | some w => if 0 ≤ i then match w.words[i.toNat]? with
  | some x => if Ck x then some [.agg (At x).cs] else none
  | none => none
  else none
 | none => none
noncomputable def saS : Spec
 | [.agg cs, .one (.v (.int .i64 i))] => saV i (wldR cs)
 | _ => none
theorem unpackS_ok {x : Nat} (h : x < 2 ^ 64) (hw : Ck x = true) : AN [pu x] = some [.agg (At x).cs, A5 0] := by
 have := unpackS_at h
 unfold unpackR at this
 rw [hw] at this
 exact this
theorem sa_sat : AJ C0 61 saS := AJ.ctx (C := CDU) rfl rfl (Af (O := Ab) hPDU (fun _ _ h => h.elim) Bm fun ps rs hs => by
 unfold saS at hs
 split at hs
 ·rename_i cs i
  unfold saV at hs
  split at hs
  ·rename_i w hw
   split at hs
   ·rename_i hi
    obtain ⟨j, rfl⟩ := Int.eq_ofNat_of_zero_le hi
    split at hs
    ·rename_i x hx
     split at hs
     ·rename_i hc
      simp only [Option.some.injEq] at hs
      subst hs
      rw [Int.toNat_natCast] at hx
      obtain ⟨rfl, ok⟩ := BY hw
      exact A4 (sa_call _ _ _ _ _ _ j x _ _ _ _ _) (A0 ⟨by omega, wrows_at hx⟩ (A0 (unpackS_ok (ok.words x (List.mem_of_getElem? hx)) hc) A2))
     ·cases hs
    ·cases hs
   ·cases hs
  ·cases hs
 ·cases hs)
theorem saS_at {w : Wld} (ok : w.Ok) {i x : Nat} (hx : w.words[i]? = some x) (h : Ck x = true) : saS [.agg w.cs, A5 i] = some [.agg (At x).cs] := by
 show saV i (wldR w.cs) = _
 rw [wldR_cs ok]
 simp only [saV, Int.toNat_natCast, hx]
 rw [if_pos (by omega), if_pos h]
noncomputable def CSn : Ctx := Ad (Ad (Ad (Ad (Ad (Ad C0 78 AN) 140 Cu) 141 plsS) 142 hsS) 143 wgS) 40 ctS
theorem hPSn : Aw CSn := A7 (A7 (A7 (A7 (A7 (A7 BN (unpack_sat.ctx rfl rfl) (by kernel_rfl)) (allP_sat.ctx rfl rfl) (by kernel_rfl)) (wh_sat.ctx rfl rfl) (by kernel_rfl)) (hasP_sat.ctx rfl rfl) (by kernel_rfl)) (wg_sat.ctx rfl rfl) (by kernel_rfl)) (ctP_sat.ctx rfl rfl) (by kernel_rfl)
noncomputable def CSl : Ctx := Ad (Ad (Ad (Ad (Ad (Ad C0 61 saS) 80 Cu) 156 plsS) 19 hsS) 103 wdS) 37 ctS
theorem hPSl : Aw CSl := A7 (A7 (A7 (A7 (A7 (A7 BN (sa_sat.ctx rfl rfl) (by kernel_rfl)) (allD_sat.ctx rfl rfl) (by kernel_rfl)) (pl_sat.ctx rfl rfl) (by kernel_rfl)) (hasD_sat.ctx rfl rfl) (by kernel_rfl)) (wd_sat.ctx rfl rfl) (by kernel_rfl)) (ctD_sat.ctx rfl rfl) (by kernel_rfl)
theorem sn_1 (wd tk qr lr sr bw : A8) (i x k c s g ni ma la a mm : Int) (b : Bool) : Cs CSn Ab 60 77 [.agg (AM wd tk qr lr sr bw), A5 i] [(A1 77 16, .row [du x]), (A1 77 18, .prim [.agg (Bg k c s g b), A5 0]), (A1 77 25, .row [di ni, du ma, di la]), (A1 77 33, .b true)] = some ([A3 false], [], [0 ≤ i ∧ wd[i.toNat]? = some [du x], AN [pu x] = some [.agg (Bg k c s g b), A5 0], 0 ≤ i ∧ tk[i.toNat]? = some [di ni, du ma, di la], decide (c ≥ (qr.length : Int)) = true]) := by kernel_rfl
theorem sn_2 (wd tk qr lr sr bw : A8) (i x k c s g ni ma la a mm : Int) (b : Bool) : Cs CSn Ab 60 77 [.agg (AM wd tk qr lr sr bw), A5 i] [(A1 77 16, .row [du x]), (A1 77 18, .prim [.agg (Bg k c s g b), A5 0]), (A1 77 25, .row [di ni, du ma, di la]), (A1 77 33, .b false), (A1 77 38, .prim [pu a]), (A1 77 39, .int mm), (A1 77 40, .b true)] = some ([A3 false], [], [0 ≤ i ∧ wd[i.toNat]? = some [du x], AN [pu x] = some [.agg (Bg k c s g b), A5 0], 0 ≤ i ∧ tk[i.toNat]? = some [di ni, du ma, di la], decide (c ≥ (qr.length : Int)) = false, Cu [A5 (qr.length : Nat)] = some [pu a], andnI ma a = mm, (mm != 0) = true]) := by kernel_rfl
theorem sn_3 (wd tk qr lr sr bw : A8) (i x k c s g ni ma la a mm : Int) (b : Bool) : Cs CSn Ab 60 77 [.agg (AM wd tk qr lr sr bw), A5 i] [(A1 77 16, .row [du x]), (A1 77 18, .prim [.agg (Bg k c s g b), A5 0]), (A1 77 25, .row [di ni, du ma, di la]), (A1 77 33, .b false), (A1 77 38, .prim [pu a]), (A1 77 39, .int mm), (A1 77 40, .b false), (A1 77 46, .prim [A3 false])] = some ([A3 false], [], [0 ≤ i ∧ wd[i.toNat]? = some [du x], AN [pu x] = some [.agg (Bg k c s g b), A5 0], 0 ≤ i ∧ tk[i.toNat]? = some [di ni, du ma, di la], decide (c ≥ (qr.length : Int)) = false, Cu [A5 (qr.length : Nat)] = some [pu a], andnI ma a = mm, (mm != 0) = false, plsS [.agg (AM wd tk qr lr sr bw), A5 i, .agg (Bg k c s g b)] = some [A3 false]]) := by kernel_rfl
theorem sn_4 (wd tk qr lr sr bw : A8) (i x k c s g ni ma la a mm : Int) (b : Bool) (h : Bool) : Cs CSn Ab 60 77 [.agg (AM wd tk qr lr sr bw), A5 i] [(A1 77 16, .row [du x]), (A1 77 18, .prim [.agg (Bg k c s g b), A5 0]), (A1 77 25, .row [di ni, du ma, di la]), (A1 77 33, .b false), (A1 77 38, .prim [pu a]), (A1 77 39, .int mm), (A1 77 40, .b false), (A1 77 46, .prim [A3 true]), (A1 77 53, .prim [A3 h]), (A1 77 57, .b true)] = some ([A3 true], [], [0 ≤ i ∧ wd[i.toNat]? = some [du x], AN [pu x] = some [.agg (Bg k c s g b), A5 0], 0 ≤ i ∧ tk[i.toNat]? = some [di ni, du ma, di la], decide (c ≥ (qr.length : Int)) = false, Cu [A5 (qr.length : Nat)] = some [pu a], andnI ma a = mm, (mm != 0) = false, plsS [.agg (AM wd tk qr lr sr bw), A5 i, .agg (Bg k c s g b)] = some [A3 true], hsS [pu ma, A5 c] = some [A3 h], (k == 0) = true]) := by kernel_rfl
theorem sn_5 (wd tk qr lr sr bw : A8) (i x k c s g ni ma la a mm : Int) (b : Bool) (h : Bool) : Cs CSn Ab 60 77 [.agg (AM wd tk qr lr sr bw), A5 i] [(A1 77 16, .row [du x]), (A1 77 18, .prim [.agg (Bg k c s g b), A5 0]), (A1 77 25, .row [di ni, du ma, di la]), (A1 77 33, .b false), (A1 77 38, .prim [pu a]), (A1 77 39, .int mm), (A1 77 40, .b false), (A1 77 46, .prim [A3 true]), (A1 77 53, .prim [A3 h]), (A1 77 57, .b false), (A1 77 59, .b false), (A1 77 60, .b false)] = some ([A3 h], [], [0 ≤ i ∧ wd[i.toNat]? = some [du x], AN [pu x] = some [.agg (Bg k c s g b), A5 0], 0 ≤ i ∧ tk[i.toNat]? = some [di ni, du ma, di la], decide (c ≥ (qr.length : Int)) = false, Cu [A5 (qr.length : Nat)] = some [pu a], andnI ma a = mm, (mm != 0) = false, plsS [.agg (AM wd tk qr lr sr bw), A5 i, .agg (Bg k c s g b)] = some [A3 true], hsS [pu ma, A5 c] = some [A3 h], (k == 0) = false, (k == 4) = false, (k == 5) = false]) := by kernel_rfl
theorem sn_6q (wd tk qr lr sr bw : A8) (i x k c s g ni ma la a mm : Int) (b : Bool) (h : Bool) : Cs CSn Ab 60 77 [.agg (AM wd tk qr lr sr bw), A5 i] [(A1 77 16, .row [du x]), (A1 77 18, .prim [.agg (Bg k c s g b), A5 0]), (A1 77 25, .row [di ni, du ma, di la]), (A1 77 33, .b false), (A1 77 38, .prim [pu a]), (A1 77 39, .int mm), (A1 77 40, .b false), (A1 77 46, .prim [A3 true]), (A1 77 53, .prim [A3 h]), (A1 77 57, .b false), (A1 77 59, .b true), (A1 77 67, .b false)] = some ([A3 false], [], [0 ≤ i ∧ wd[i.toNat]? = some [du x], AN [pu x] = some [.agg (Bg k c s g b), A5 0], 0 ≤ i ∧ tk[i.toNat]? = some [di ni, du ma, di la], decide (c ≥ (qr.length : Int)) = false, Cu [A5 (qr.length : Nat)] = some [pu a], andnI ma a = mm, (mm != 0) = false, plsS [.agg (AM wd tk qr lr sr bw), A5 i, .agg (Bg k c s g b)] = some [A3 true], hsS [pu ma, A5 c] = some [A3 h], (k == 0) = false, (k == 4) = true, (la == 0) = false]) := by kernel_rfl
theorem sn_7q (wd tk qr lr sr bw : A8) (i x k c s g ni ma la a mm : Int) (b : Bool) (h : Bool) (root cur v m load wv wt : Int) (nsr wl hs : A8) : Cs CSn Ab 60 77 [.agg (AM wd tk qr lr sr bw), A5 i] [(A1 77 16, .row [du x]), (A1 77 18, .prim [.agg (Bg k c s g b), A5 0]), (A1 77 25, .row [di ni, du ma, di la]), (A1 77 33, .b false), (A1 77 38, .prim [pu a]), (A1 77 39, .int mm), (A1 77 40, .b false), (A1 77 46, .prim [A3 true]), (A1 77 53, .prim [A3 h]), (A1 77 57, .b false), (A1 77 59, .b true), (A1 77 67, .b true), (A1 77 73, .row (Bs root cur v m load nsr wl)), (A1 77 77, .row [di wv]), (A1 77 80, .prim [A5 wt]), (A1 77 81, .b false)] = some ([A3 false], [], [0 ≤ i ∧ wd[i.toNat]? = some [du x], AN [pu x] = some [.agg (Bg k c s g b), A5 0], 0 ≤ i ∧ tk[i.toNat]? = some [di ni, du ma, di la], decide (c ≥ (qr.length : Int)) = false, Cu [A5 (qr.length : Nat)] = some [pu a], andnI ma a = mm, (mm != 0) = false, plsS [.agg (AM wd tk qr lr sr bw), A5 i, .agg (Bg k c s g b)] = some [A3 true], hsS [pu ma, A5 c] = some [A3 h], (k == 0) = false, (k == 4) = true, (la == 0) = true, 0 ≤ c ∧ qr[c.toNat]? = some (Bs root cur v m load nsr wl), 0 ≤ i ∧ wl[i.toNat]? = some [di wv], wgS [.agg [di ni, du ma, di la]] = some [A5 wt], (wv == wt) = false]) := by kernel_rfl
theorem sn_8q (wd tk qr lr sr bw : A8) (i x k c s g ni ma la a mm : Int) (b : Bool) (root cur v m load wv wt : Int) (nsr wl hs : A8) : Cs CSn Ab 60 77 [.agg (AM wd tk qr lr sr bw), A5 i] [(A1 77 16, .row [du x]), (A1 77 18, .prim [.agg (Bg k c s g b), A5 0]), (A1 77 25, .row [di ni, du ma, di la]), (A1 77 33, .b false), (A1 77 38, .prim [pu a]), (A1 77 39, .int mm), (A1 77 40, .b false), (A1 77 46, .prim [A3 true]), (A1 77 53, .prim [A3 true]), (A1 77 57, .b false), (A1 77 59, .b true), (A1 77 67, .b true), (A1 77 73, .row (Bs root cur v m load nsr wl)), (A1 77 77, .row [di wv]), (A1 77 80, .prim [A5 wt]), (A1 77 81, .b true)] = some ([A3 true], [], [0 ≤ i ∧ wd[i.toNat]? = some [du x], AN [pu x] = some [.agg (Bg k c s g b), A5 0], 0 ≤ i ∧ tk[i.toNat]? = some [di ni, du ma, di la], decide (c ≥ (qr.length : Int)) = false, Cu [A5 (qr.length : Nat)] = some [pu a], andnI ma a = mm, (mm != 0) = false, plsS [.agg (AM wd tk qr lr sr bw), A5 i, .agg (Bg k c s g b)] = some [A3 true], hsS [pu ma, A5 c] = some [A3 true], (k == 0) = false, (k == 4) = true, (la == 0) = true, 0 ≤ c ∧ qr[c.toNat]? = some (Bs root cur v m load nsr wl), 0 ≤ i ∧ wl[i.toNat]? = some [di wv], wgS [.agg [di ni, du ma, di la]] = some [A5 wt], (wv == wt) = true]) := by kernel_rfl
theorem sn_9q (wd tk qr lr sr bw : A8) (i x k c s g ni ma la a mm : Int) (b : Bool) (z : Bool) (root cur v m load wv wt : Int) (nsr wl hs : A8) : Cs CSn Ab 60 77 [.agg (AM wd tk qr lr sr bw), A5 i] [(A1 77 16, .row [du x]), (A1 77 18, .prim [.agg (Bg k c s g b), A5 0]), (A1 77 25, .row [di ni, du ma, di la]), (A1 77 33, .b false), (A1 77 38, .prim [pu a]), (A1 77 39, .int mm), (A1 77 40, .b false), (A1 77 46, .prim [A3 true]), (A1 77 53, .prim [A3 false]), (A1 77 57, .b false), (A1 77 59, .b true), (A1 77 67, .b true), (A1 77 73, .row (Bs root cur v m load nsr wl)), (A1 77 77, .row [di wv]), (A1 77 80, .prim [A5 wt]), (A1 77 81, .b true), (A1 77 90, .row [.mn 2 hs]), (A1 77 93, .prim [A3 z])] = some ([A3 z], [], [0 ≤ i ∧ wd[i.toNat]? = some [du x], AN [pu x] = some [.agg (Bg k c s g b), A5 0], 0 ≤ i ∧ tk[i.toNat]? = some [di ni, du ma, di la], decide (c ≥ (qr.length : Int)) = false, Cu [A5 (qr.length : Nat)] = some [pu a], andnI ma a = mm, (mm != 0) = false, plsS [.agg (AM wd tk qr lr sr bw), A5 i, .agg (Bg k c s g b)] = some [A3 true], hsS [pu ma, A5 c] = some [A3 false], (k == 0) = false, (k == 4) = true, (la == 0) = true, 0 ≤ c ∧ qr[c.toNat]? = some (Bs root cur v m load nsr wl), 0 ≤ i ∧ wl[i.toNat]? = some [di wv], wgS [.agg [di ni, du ma, di la]] = some [A5 wt], (wv == wt) = true, 0 ≤ c ∧ sr[c.toNat]? = some [.mn 2 hs], ctS [.one (.mn 2 hs), .agg [di i, di g]] = some [A3 z]]) := by kernel_rfl
theorem sn_6r (wd tk qr lr sr bw : A8) (i x k c s g ni ma la a mm : Int) (b : Bool) (h : Bool) : Cs CSn Ab 60 77 [.agg (AM wd tk qr lr sr bw), A5 i] [(A1 77 16, .row [du x]), (A1 77 18, .prim [.agg (Bg k c s g b), A5 0]), (A1 77 25, .row [di ni, du ma, di la]), (A1 77 33, .b false), (A1 77 38, .prim [pu a]), (A1 77 39, .int mm), (A1 77 40, .b false), (A1 77 46, .prim [A3 true]), (A1 77 53, .prim [A3 h]), (A1 77 57, .b false), (A1 77 59, .b false), (A1 77 60, .b true), (A1 77 67, .b false)] = some ([A3 false], [], [0 ≤ i ∧ wd[i.toNat]? = some [du x], AN [pu x] = some [.agg (Bg k c s g b), A5 0], 0 ≤ i ∧ tk[i.toNat]? = some [di ni, du ma, di la], decide (c ≥ (qr.length : Int)) = false, Cu [A5 (qr.length : Nat)] = some [pu a], andnI ma a = mm, (mm != 0) = false, plsS [.agg (AM wd tk qr lr sr bw), A5 i, .agg (Bg k c s g b)] = some [A3 true], hsS [pu ma, A5 c] = some [A3 h], (k == 0) = false, (k == 4) = false, (k == 5) = true, (la == 0) = false]) := by kernel_rfl
theorem sn_7r (wd tk qr lr sr bw : A8) (i x k c s g ni ma la a mm : Int) (b : Bool) (h : Bool) (root cur v m load wv wt : Int) (nsr wl hs : A8) : Cs CSn Ab 60 77 [.agg (AM wd tk qr lr sr bw), A5 i] [(A1 77 16, .row [du x]), (A1 77 18, .prim [.agg (Bg k c s g b), A5 0]), (A1 77 25, .row [di ni, du ma, di la]), (A1 77 33, .b false), (A1 77 38, .prim [pu a]), (A1 77 39, .int mm), (A1 77 40, .b false), (A1 77 46, .prim [A3 true]), (A1 77 53, .prim [A3 h]), (A1 77 57, .b false), (A1 77 59, .b false), (A1 77 60, .b true), (A1 77 67, .b true), (A1 77 73, .row (Bs root cur v m load nsr wl)), (A1 77 77, .row [di wv]), (A1 77 80, .prim [A5 wt]), (A1 77 81, .b false)] = some ([A3 false], [], [0 ≤ i ∧ wd[i.toNat]? = some [du x], AN [pu x] = some [.agg (Bg k c s g b), A5 0], 0 ≤ i ∧ tk[i.toNat]? = some [di ni, du ma, di la], decide (c ≥ (qr.length : Int)) = false, Cu [A5 (qr.length : Nat)] = some [pu a], andnI ma a = mm, (mm != 0) = false, plsS [.agg (AM wd tk qr lr sr bw), A5 i, .agg (Bg k c s g b)] = some [A3 true], hsS [pu ma, A5 c] = some [A3 h], (k == 0) = false, (k == 4) = false, (k == 5) = true, (la == 0) = true, 0 ≤ c ∧ qr[c.toNat]? = some (Bs root cur v m load nsr wl), 0 ≤ i ∧ wl[i.toNat]? = some [di wv], wgS [.agg [di ni, du ma, di la]] = some [A5 wt], (wv == wt) = false]) := by kernel_rfl
theorem sn_8r (wd tk qr lr sr bw : A8) (i x k c s g ni ma la a mm : Int) (b : Bool) (root cur v m load wv wt : Int) (nsr wl hs : A8) : Cs CSn Ab 60 77 [.agg (AM wd tk qr lr sr bw), A5 i] [(A1 77 16, .row [du x]), (A1 77 18, .prim [.agg (Bg k c s g b), A5 0]), (A1 77 25, .row [di ni, du ma, di la]), (A1 77 33, .b false), (A1 77 38, .prim [pu a]), (A1 77 39, .int mm), (A1 77 40, .b false), (A1 77 46, .prim [A3 true]), (A1 77 53, .prim [A3 true]), (A1 77 57, .b false), (A1 77 59, .b false), (A1 77 60, .b true), (A1 77 67, .b true), (A1 77 73, .row (Bs root cur v m load nsr wl)), (A1 77 77, .row [di wv]), (A1 77 80, .prim [A5 wt]), (A1 77 81, .b true)] = some ([A3 true], [], [0 ≤ i ∧ wd[i.toNat]? = some [du x], AN [pu x] = some [.agg (Bg k c s g b), A5 0], 0 ≤ i ∧ tk[i.toNat]? = some [di ni, du ma, di la], decide (c ≥ (qr.length : Int)) = false, Cu [A5 (qr.length : Nat)] = some [pu a], andnI ma a = mm, (mm != 0) = false, plsS [.agg (AM wd tk qr lr sr bw), A5 i, .agg (Bg k c s g b)] = some [A3 true], hsS [pu ma, A5 c] = some [A3 true], (k == 0) = false, (k == 4) = false, (k == 5) = true, (la == 0) = true, 0 ≤ c ∧ qr[c.toNat]? = some (Bs root cur v m load nsr wl), 0 ≤ i ∧ wl[i.toNat]? = some [di wv], wgS [.agg [di ni, du ma, di la]] = some [A5 wt], (wv == wt) = true]) := by kernel_rfl
theorem sn_9r (wd tk qr lr sr bw : A8) (i x k c s g ni ma la a mm : Int) (b : Bool) (z : Bool) (root cur v m load wv wt : Int) (nsr wl hs : A8) : Cs CSn Ab 60 77 [.agg (AM wd tk qr lr sr bw), A5 i] [(A1 77 16, .row [du x]), (A1 77 18, .prim [.agg (Bg k c s g b), A5 0]), (A1 77 25, .row [di ni, du ma, di la]), (A1 77 33, .b false), (A1 77 38, .prim [pu a]), (A1 77 39, .int mm), (A1 77 40, .b false), (A1 77 46, .prim [A3 true]), (A1 77 53, .prim [A3 false]), (A1 77 57, .b false), (A1 77 59, .b false), (A1 77 60, .b true), (A1 77 67, .b true), (A1 77 73, .row (Bs root cur v m load nsr wl)), (A1 77 77, .row [di wv]), (A1 77 80, .prim [A5 wt]), (A1 77 81, .b true), (A1 77 90, .row [.mn 2 hs]), (A1 77 93, .prim [A3 z])] = some ([A3 z], [], [0 ≤ i ∧ wd[i.toNat]? = some [du x], AN [pu x] = some [.agg (Bg k c s g b), A5 0], 0 ≤ i ∧ tk[i.toNat]? = some [di ni, du ma, di la], decide (c ≥ (qr.length : Int)) = false, Cu [A5 (qr.length : Nat)] = some [pu a], andnI ma a = mm, (mm != 0) = false, plsS [.agg (AM wd tk qr lr sr bw), A5 i, .agg (Bg k c s g b)] = some [A3 true], hsS [pu ma, A5 c] = some [A3 false], (k == 0) = false, (k == 4) = false, (k == 5) = true, (la == 0) = true, 0 ≤ c ∧ qr[c.toNat]? = some (Bs root cur v m load nsr wl), 0 ≤ i ∧ wl[i.toNat]? = some [di wv], wgS [.agg [di ni, du ma, di la]] = some [A5 wt], (wv == wt) = true, 0 ≤ c ∧ sr[c.toNat]? = some [.mn 2 hs], ctS [.one (.mn 2 hs), .agg [di i, di g]] = some [A3 z]]) := by kernel_rfl
theorem sl_1 (wd tk qr lr sr bw : A8) (i x k c s g ni ma la a mm : Int) (b : Bool) : Cs CSl Ab 60 89 [.agg (AM wd tk qr lr sr bw), A5 i] [(A1 89 12, .prim [.agg (Bg k c s g b)]), (A1 89 17, .row [di ni, du ma, di la]), (A1 89 25, .b true)] = some ([A3 false], [], [saS [.agg (AM wd tk qr lr sr bw), A5 i] = some [.agg (Bg k c s g b)], 0 ≤ i ∧ tk[i.toNat]? = some [di ni, du ma, di la], decide (c ≥ (qr.length : Int)) = true]) := by kernel_rfl
theorem sl_2 (wd tk qr lr sr bw : A8) (i x k c s g ni ma la a mm : Int) (b : Bool) : Cs CSl Ab 60 89 [.agg (AM wd tk qr lr sr bw), A5 i] [(A1 89 12, .prim [.agg (Bg k c s g b)]), (A1 89 17, .row [di ni, du ma, di la]), (A1 89 25, .b false), (A1 89 30, .prim [pu a]), (A1 89 31, .int mm), (A1 89 34, .b true)] = some ([A3 false], [], [saS [.agg (AM wd tk qr lr sr bw), A5 i] = some [.agg (Bg k c s g b)], 0 ≤ i ∧ tk[i.toNat]? = some [di ni, du ma, di la], decide (c ≥ (qr.length : Int)) = false, Cu [A5 (qr.length : Nat)] = some [pu a], andI ma a = mm, (mm != ma) = true]) := by kernel_rfl
theorem sl_3 (wd tk qr lr sr bw : A8) (i x k c s g ni ma la a mm : Int) (b : Bool) : Cs CSl Ab 60 89 [.agg (AM wd tk qr lr sr bw), A5 i] [(A1 89 12, .prim [.agg (Bg k c s g b)]), (A1 89 17, .row [di ni, du ma, di la]), (A1 89 25, .b false), (A1 89 30, .prim [pu a]), (A1 89 31, .int mm), (A1 89 34, .b false), (A1 89 40, .prim [A3 false])] = some ([A3 false], [], [saS [.agg (AM wd tk qr lr sr bw), A5 i] = some [.agg (Bg k c s g b)], 0 ≤ i ∧ tk[i.toNat]? = some [di ni, du ma, di la], decide (c ≥ (qr.length : Int)) = false, Cu [A5 (qr.length : Nat)] = some [pu a], andI ma a = mm, (mm != ma) = false, plsS [.agg (AM wd tk qr lr sr bw), A5 i, .agg (Bg k c s g b)] = some [A3 false]]) := by kernel_rfl
theorem sl_4 (wd tk qr lr sr bw : A8) (i x k c s g ni ma la a mm : Int) (b : Bool) : Cs CSl Ab 60 89 [.agg (AM wd tk qr lr sr bw), A5 i] [(A1 89 12, .prim [.agg (Bg k c s g b)]), (A1 89 17, .row [di ni, du ma, di la]), (A1 89 25, .b false), (A1 89 30, .prim [pu a]), (A1 89 31, .int mm), (A1 89 34, .b false), (A1 89 40, .prim [A3 true]), (A1 89 45, .b true)] = some ([A3 true], [], [saS [.agg (AM wd tk qr lr sr bw), A5 i] = some [.agg (Bg k c s g b)], 0 ≤ i ∧ tk[i.toNat]? = some [di ni, du ma, di la], decide (c ≥ (qr.length : Int)) = false, Cu [A5 (qr.length : Nat)] = some [pu a], andI ma a = mm, (mm != ma) = false, plsS [.agg (AM wd tk qr lr sr bw), A5 i, .agg (Bg k c s g b)] = some [A3 true], (k == 0) = true]) := by kernel_rfl
theorem sl_5 (wd tk qr lr sr bw : A8) (i x k c s g ni ma la a mm : Int) (b : Bool) (h : Bool) : Cs CSl Ab 60 89 [.agg (AM wd tk qr lr sr bw), A5 i] [(A1 89 12, .prim [.agg (Bg k c s g b)]), (A1 89 17, .row [di ni, du ma, di la]), (A1 89 25, .b false), (A1 89 30, .prim [pu a]), (A1 89 31, .int mm), (A1 89 34, .b false), (A1 89 40, .prim [A3 true]), (A1 89 45, .b false), (A1 89 50, .prim [A3 h]), (A1 89 53, .b true), (A1 89 57, .b true)] = some ([A3 h], [], [saS [.agg (AM wd tk qr lr sr bw), A5 i] = some [.agg (Bg k c s g b)], 0 ≤ i ∧ tk[i.toNat]? = some [di ni, du ma, di la], decide (c ≥ (qr.length : Int)) = false, Cu [A5 (qr.length : Nat)] = some [pu a], andI ma a = mm, (mm != ma) = false, plsS [.agg (AM wd tk qr lr sr bw), A5 i, .agg (Bg k c s g b)] = some [A3 true], (k == 0) = false, hsS [pu ma, A5 c] = some [A3 h], (k != 4) = true, (k != 5) = true]) := by kernel_rfl
theorem sl_6q (wd tk qr lr sr bw : A8) (i x k c s g ni ma la a mm : Int) (b : Bool) (h z : Bool) (hs : A8) : Cs CSl Ab 60 89 [.agg (AM wd tk qr lr sr bw), A5 i] [(A1 89 12, .prim [.agg (Bg k c s g b)]), (A1 89 17, .row [di ni, du ma, di la]), (A1 89 25, .b false), (A1 89 30, .prim [pu a]), (A1 89 31, .int mm), (A1 89 34, .b false), (A1 89 40, .prim [A3 true]), (A1 89 45, .b false), (A1 89 50, .prim [A3 h]), (A1 89 53, .b false), (A1 89 64, .row [.mn 2 hs]), (A1 89 70, .prim [A3 z]), (A1 89 73, .b false)] = some ([A3 false], [], [saS [.agg (AM wd tk qr lr sr bw), A5 i] = some [.agg (Bg k c s g b)], 0 ≤ i ∧ tk[i.toNat]? = some [di ni, du ma, di la], decide (c ≥ (qr.length : Int)) = false, Cu [A5 (qr.length : Nat)] = some [pu a], andI ma a = mm, (mm != ma) = false, plsS [.agg (AM wd tk qr lr sr bw), A5 i, .agg (Bg k c s g b)] = some [A3 true], (k == 0) = false, hsS [pu ma, A5 c] = some [A3 h], (k != 4) = false, 0 ≤ c ∧ sr[c.toNat]? = some [.mn 2 hs], ctS [.one (.mn 2 hs), .agg [di i, di g]] = some [A3 z], (la == 0) = false]) := by kernel_rfl
theorem sl_7q (wd tk qr lr sr bw : A8) (i x k c s g ni ma la a mm : Int) (b : Bool) (h z : Bool) (root cur v m load wv wt : Int) (nsr wl hs : A8) : Cs CSl Ab 60 89 [.agg (AM wd tk qr lr sr bw), A5 i] [(A1 89 12, .prim [.agg (Bg k c s g b)]), (A1 89 17, .row [di ni, du ma, di la]), (A1 89 25, .b false), (A1 89 30, .prim [pu a]), (A1 89 31, .int mm), (A1 89 34, .b false), (A1 89 40, .prim [A3 true]), (A1 89 45, .b false), (A1 89 50, .prim [A3 h]), (A1 89 53, .b false), (A1 89 64, .row [.mn 2 hs]), (A1 89 70, .prim [A3 z]), (A1 89 73, .b true), (A1 89 79, .row (Bs root cur v m load nsr wl)), (A1 89 83, .row [di wv]), (A1 89 87, .prim [A5 wt]), (A1 89 88, .b false)] = some ([A3 false], [], [saS [.agg (AM wd tk qr lr sr bw), A5 i] = some [.agg (Bg k c s g b)], 0 ≤ i ∧ tk[i.toNat]? = some [di ni, du ma, di la], decide (c ≥ (qr.length : Int)) = false, Cu [A5 (qr.length : Nat)] = some [pu a], andI ma a = mm, (mm != ma) = false, plsS [.agg (AM wd tk qr lr sr bw), A5 i, .agg (Bg k c s g b)] = some [A3 true], (k == 0) = false, hsS [pu ma, A5 c] = some [A3 h], (k != 4) = false, 0 ≤ c ∧ sr[c.toNat]? = some [.mn 2 hs], ctS [.one (.mn 2 hs), .agg [di i, di g]] = some [A3 z], (la == 0) = true, 0 ≤ c ∧ qr[c.toNat]? = some (Bs root cur v m load nsr wl), 0 ≤ i ∧ wl[i.toNat]? = some [di wv], wdS [.agg (AM wd tk qr lr sr bw), A5 i] = some [A5 wt], (wv == wt) = false]) := by kernel_rfl
theorem sl_8q (wd tk qr lr sr bw : A8) (i x k c s g ni ma la a mm : Int) (b : Bool) (z : Bool) (root cur v m load wv wt : Int) (nsr wl hs : A8) : Cs CSl Ab 60 89 [.agg (AM wd tk qr lr sr bw), A5 i] [(A1 89 12, .prim [.agg (Bg k c s g b)]), (A1 89 17, .row [di ni, du ma, di la]), (A1 89 25, .b false), (A1 89 30, .prim [pu a]), (A1 89 31, .int mm), (A1 89 34, .b false), (A1 89 40, .prim [A3 true]), (A1 89 45, .b false), (A1 89 50, .prim [A3 true]), (A1 89 53, .b false), (A1 89 64, .row [.mn 2 hs]), (A1 89 70, .prim [A3 z]), (A1 89 73, .b true), (A1 89 79, .row (Bs root cur v m load nsr wl)), (A1 89 83, .row [di wv]), (A1 89 87, .prim [A5 wt]), (A1 89 88, .b true)] = some ([A3 true], [], [saS [.agg (AM wd tk qr lr sr bw), A5 i] = some [.agg (Bg k c s g b)], 0 ≤ i ∧ tk[i.toNat]? = some [di ni, du ma, di la], decide (c ≥ (qr.length : Int)) = false, Cu [A5 (qr.length : Nat)] = some [pu a], andI ma a = mm, (mm != ma) = false, plsS [.agg (AM wd tk qr lr sr bw), A5 i, .agg (Bg k c s g b)] = some [A3 true], (k == 0) = false, hsS [pu ma, A5 c] = some [A3 true], (k != 4) = false, 0 ≤ c ∧ sr[c.toNat]? = some [.mn 2 hs], ctS [.one (.mn 2 hs), .agg [di i, di g]] = some [A3 z], (la == 0) = true, 0 ≤ c ∧ qr[c.toNat]? = some (Bs root cur v m load nsr wl), 0 ≤ i ∧ wl[i.toNat]? = some [di wv], wdS [.agg (AM wd tk qr lr sr bw), A5 i] = some [A5 wt], (wv == wt) = true]) := by kernel_rfl
theorem sl_9q (wd tk qr lr sr bw : A8) (i x k c s g ni ma la a mm : Int) (b : Bool) (z : Bool) (root cur v m load wv wt : Int) (nsr wl hs : A8) : Cs CSl Ab 60 89 [.agg (AM wd tk qr lr sr bw), A5 i] [(A1 89 12, .prim [.agg (Bg k c s g b)]), (A1 89 17, .row [di ni, du ma, di la]), (A1 89 25, .b false), (A1 89 30, .prim [pu a]), (A1 89 31, .int mm), (A1 89 34, .b false), (A1 89 40, .prim [A3 true]), (A1 89 45, .b false), (A1 89 50, .prim [A3 false]), (A1 89 53, .b false), (A1 89 64, .row [.mn 2 hs]), (A1 89 70, .prim [A3 z]), (A1 89 73, .b true), (A1 89 79, .row (Bs root cur v m load nsr wl)), (A1 89 83, .row [di wv]), (A1 89 87, .prim [A5 wt]), (A1 89 88, .b true)] = some ([A3 z], [], [saS [.agg (AM wd tk qr lr sr bw), A5 i] = some [.agg (Bg k c s g b)], 0 ≤ i ∧ tk[i.toNat]? = some [di ni, du ma, di la], decide (c ≥ (qr.length : Int)) = false, Cu [A5 (qr.length : Nat)] = some [pu a], andI ma a = mm, (mm != ma) = false, plsS [.agg (AM wd tk qr lr sr bw), A5 i, .agg (Bg k c s g b)] = some [A3 true], (k == 0) = false, hsS [pu ma, A5 c] = some [A3 false], (k != 4) = false, 0 ≤ c ∧ sr[c.toNat]? = some [.mn 2 hs], ctS [.one (.mn 2 hs), .agg [di i, di g]] = some [A3 z], (la == 0) = true, 0 ≤ c ∧ qr[c.toNat]? = some (Bs root cur v m load nsr wl), 0 ≤ i ∧ wl[i.toNat]? = some [di wv], wdS [.agg (AM wd tk qr lr sr bw), A5 i] = some [A5 wt], (wv == wt) = true]) := by kernel_rfl
theorem sl_6r (wd tk qr lr sr bw : A8) (i x k c s g ni ma la a mm : Int) (b : Bool) (h z : Bool) (hs : A8) : Cs CSl Ab 60 89 [.agg (AM wd tk qr lr sr bw), A5 i] [(A1 89 12, .prim [.agg (Bg k c s g b)]), (A1 89 17, .row [di ni, du ma, di la]), (A1 89 25, .b false), (A1 89 30, .prim [pu a]), (A1 89 31, .int mm), (A1 89 34, .b false), (A1 89 40, .prim [A3 true]), (A1 89 45, .b false), (A1 89 50, .prim [A3 h]), (A1 89 53, .b true), (A1 89 57, .b false), (A1 89 64, .row [.mn 2 hs]), (A1 89 70, .prim [A3 z]), (A1 89 73, .b false)] = some ([A3 false], [], [saS [.agg (AM wd tk qr lr sr bw), A5 i] = some [.agg (Bg k c s g b)], 0 ≤ i ∧ tk[i.toNat]? = some [di ni, du ma, di la], decide (c ≥ (qr.length : Int)) = false, Cu [A5 (qr.length : Nat)] = some [pu a], andI ma a = mm, (mm != ma) = false, plsS [.agg (AM wd tk qr lr sr bw), A5 i, .agg (Bg k c s g b)] = some [A3 true], (k == 0) = false, hsS [pu ma, A5 c] = some [A3 h], (k != 4) = true, (k != 5) = false, 0 ≤ c ∧ sr[c.toNat]? = some [.mn 2 hs], ctS [.one (.mn 2 hs), .agg [di i, di g]] = some [A3 z], (la == 0) = false]) := by kernel_rfl
theorem sl_7r (wd tk qr lr sr bw : A8) (i x k c s g ni ma la a mm : Int) (b : Bool) (h z : Bool) (root cur v m load wv wt : Int) (nsr wl hs : A8) : Cs CSl Ab 60 89 [.agg (AM wd tk qr lr sr bw), A5 i] [(A1 89 12, .prim [.agg (Bg k c s g b)]), (A1 89 17, .row [di ni, du ma, di la]), (A1 89 25, .b false), (A1 89 30, .prim [pu a]), (A1 89 31, .int mm), (A1 89 34, .b false), (A1 89 40, .prim [A3 true]), (A1 89 45, .b false), (A1 89 50, .prim [A3 h]), (A1 89 53, .b true), (A1 89 57, .b false), (A1 89 64, .row [.mn 2 hs]), (A1 89 70, .prim [A3 z]), (A1 89 73, .b true), (A1 89 79, .row (Bs root cur v m load nsr wl)), (A1 89 83, .row [di wv]), (A1 89 87, .prim [A5 wt]), (A1 89 88, .b false)] = some ([A3 false], [], [saS [.agg (AM wd tk qr lr sr bw), A5 i] = some [.agg (Bg k c s g b)], 0 ≤ i ∧ tk[i.toNat]? = some [di ni, du ma, di la], decide (c ≥ (qr.length : Int)) = false, Cu [A5 (qr.length : Nat)] = some [pu a], andI ma a = mm, (mm != ma) = false, plsS [.agg (AM wd tk qr lr sr bw), A5 i, .agg (Bg k c s g b)] = some [A3 true], (k == 0) = false, hsS [pu ma, A5 c] = some [A3 h], (k != 4) = true, (k != 5) = false, 0 ≤ c ∧ sr[c.toNat]? = some [.mn 2 hs], ctS [.one (.mn 2 hs), .agg [di i, di g]] = some [A3 z], (la == 0) = true, 0 ≤ c ∧ qr[c.toNat]? = some (Bs root cur v m load nsr wl), 0 ≤ i ∧ wl[i.toNat]? = some [di wv], wdS [.agg (AM wd tk qr lr sr bw), A5 i] = some [A5 wt], (wv == wt) = false]) := by kernel_rfl
theorem sl_8r (wd tk qr lr sr bw : A8) (i x k c s g ni ma la a mm : Int) (b : Bool) (z : Bool) (root cur v m load wv wt : Int) (nsr wl hs : A8) : Cs CSl Ab 60 89 [.agg (AM wd tk qr lr sr bw), A5 i] [(A1 89 12, .prim [.agg (Bg k c s g b)]), (A1 89 17, .row [di ni, du ma, di la]), (A1 89 25, .b false), (A1 89 30, .prim [pu a]), (A1 89 31, .int mm), (A1 89 34, .b false), (A1 89 40, .prim [A3 true]), (A1 89 45, .b false), (A1 89 50, .prim [A3 true]), (A1 89 53, .b true), (A1 89 57, .b false), (A1 89 64, .row [.mn 2 hs]), (A1 89 70, .prim [A3 z]), (A1 89 73, .b true), (A1 89 79, .row (Bs root cur v m load nsr wl)), (A1 89 83, .row [di wv]), (A1 89 87, .prim [A5 wt]), (A1 89 88, .b true)] = some ([A3 true], [], [saS [.agg (AM wd tk qr lr sr bw), A5 i] = some [.agg (Bg k c s g b)], 0 ≤ i ∧ tk[i.toNat]? = some [di ni, du ma, di la], decide (c ≥ (qr.length : Int)) = false, Cu [A5 (qr.length : Nat)] = some [pu a], andI ma a = mm, (mm != ma) = false, plsS [.agg (AM wd tk qr lr sr bw), A5 i, .agg (Bg k c s g b)] = some [A3 true], (k == 0) = false, hsS [pu ma, A5 c] = some [A3 true], (k != 4) = true, (k != 5) = false, 0 ≤ c ∧ sr[c.toNat]? = some [.mn 2 hs], ctS [.one (.mn 2 hs), .agg [di i, di g]] = some [A3 z], (la == 0) = true, 0 ≤ c ∧ qr[c.toNat]? = some (Bs root cur v m load nsr wl), 0 ≤ i ∧ wl[i.toNat]? = some [di wv], wdS [.agg (AM wd tk qr lr sr bw), A5 i] = some [A5 wt], (wv == wt) = true]) := by kernel_rfl
theorem sl_9r (wd tk qr lr sr bw : A8) (i x k c s g ni ma la a mm : Int) (b : Bool) (z : Bool) (root cur v m load wv wt : Int) (nsr wl hs : A8) : Cs CSl Ab 60 89 [.agg (AM wd tk qr lr sr bw), A5 i] [(A1 89 12, .prim [.agg (Bg k c s g b)]), (A1 89 17, .row [di ni, du ma, di la]), (A1 89 25, .b false), (A1 89 30, .prim [pu a]), (A1 89 31, .int mm), (A1 89 34, .b false), (A1 89 40, .prim [A3 true]), (A1 89 45, .b false), (A1 89 50, .prim [A3 false]), (A1 89 53, .b true), (A1 89 57, .b false), (A1 89 64, .row [.mn 2 hs]), (A1 89 70, .prim [A3 z]), (A1 89 73, .b true), (A1 89 79, .row (Bs root cur v m load nsr wl)), (A1 89 83, .row [di wv]), (A1 89 87, .prim [A5 wt]), (A1 89 88, .b true)] = some ([A3 z], [], [saS [.agg (AM wd tk qr lr sr bw), A5 i] = some [.agg (Bg k c s g b)], 0 ≤ i ∧ tk[i.toNat]? = some [di ni, du ma, di la], decide (c ≥ (qr.length : Int)) = false, Cu [A5 (qr.length : Nat)] = some [pu a], andI ma a = mm, (mm != ma) = false, plsS [.agg (AM wd tk qr lr sr bw), A5 i, .agg (Bg k c s g b)] = some [A3 true], (k == 0) = false, hsS [pu ma, A5 c] = some [A3 false], (k != 4) = true, (k != 5) = false, 0 ≤ c ∧ sr[c.toNat]? = some [.mn 2 hs], ctS [.one (.mn 2 hs), .agg [di i, di g]] = some [A3 z], (la == 0) = true, 0 ≤ c ∧ qr[c.toNat]? = some (Bs root cur v m load nsr wl), 0 ≤ i ∧ wl[i.toNat]? = some [di wv], wdS [.agg (AM wd tk qr lr sr bw), A5 i] = some [A5 wt], (wv == wt) = true]) := by kernel_rfl
def sndC (w : Wld) (i : Nat) (st : Sta) (t : Tsk) : Bool :=
 decide (st.cpu < w.queues.length) && (decide (t.mask.toNat < 2 ^ w.queues.length) && (plsR w i st.kind st.cpu && (((st.kind : Int) == 0) || (if ((st.kind : Int) == 4 || (st.kind : Int) == 5) = true then
  (t.lag == 0) && (((match w.queues[st.cpu]? with | some q => wAt q i | none => 0) == wgt t.nice) && (hasN t.mask.toNat st.cpu || ((w.stops[st.cpu]?).getD []).contains ((i : Int), (st.gen : Int))))
  else hasN t.mask.toNat st.cpu))))
def sndR (w : Wld) (i : Nat) : Bool := match w.words[i]?, w.tasks[i]? with
 | some x, some t => sndC w i (At x) t
 | _, _ => false
structure SndIn (w : Wld) (i : Nat) : Prop where
 wi : i < w.words.length
 ti : i < w.tasks.length
 row : ∀ x t, w.words[i]? = some x → w.tasks[i]? = some t → rowOK x t = true
 n1 : 1 ≤ w.queues.length
 n64 : w.queues.length ≤ 64
 pl : plsIn w i
 st : w.stops.length = w.queues.length
 qw : ∀ q ∈ w.queues, i < q.ws.length
open Classical in
noncomputable def snV (i : Int) : Option Wld → Option (List PV)
 | some w => if 0 ≤ i ∧ SndIn w i.toNat then some [A3 (sndR w i.toNat)] else none
 | none => none
noncomputable def snS : Spec
 | [.agg cs, .one (.v (.int .i64 i))] => snV i (wldR cs)
 | _ => none
theorem snS_at {w : Wld} {i : Nat} (ok : w.Ok) (h : SndIn w i) : snS [.agg w.cs, A5 i] = some [A3 (sndR w i)] := by
 show snV i (wldR w.cs) = _
 rw [wldR_cs ok]
 unfold snV
 simp only
 rw [if_pos ⟨by omega, by rw [Int.toNat_natCast]; exact h⟩, Int.toNat_natCast]
theorem BG {l : List (List Hnd)} {i : Nat} {h : List Hnd} (e : l[i]? = some h) : (Ao l)[((i : Nat) : Int).toNat]? = some [.mn 2 (Aj h)] := by simp [Ao, e]
theorem tskOK_nice {t : Tsk} (h : tskOK t = true) : -20 ≤ t.nice ∧ t.nice ≤ 19 := by
 unfold tskOK at h
 have := of_decide_eq_true h
 exact ⟨this.1, this.2.1⟩
theorem allS_at {n : Nat} (h : n ≤ 64) : Cu [A5 (n : Int)] = some [pu ((2 ^ n - 1 : Nat) : Int)] := by
 simp only [Cu, A5, di]
 rw [if_pos ⟨by omega, by omega⟩, Int.toNat_natCast]
theorem hsS_at {m c : Nat} (hm : m < 2 ^ 64) (hc : c < 64) : hsS [pu m, A5 c] = some [A3 (hasN m c)] := by
 simp only [hsS, pu, A5, du, di]
 rw [if_pos ⟨⟨by omega, by exact_mod_cast hm⟩, by omega, by omega⟩, Int.toNat_natCast, Int.toNat_natCast]
theorem sn_sat : AJ C0 77 snS := AJ.ctx (C := CSn) rfl rfl (Af (O := Ab) hPSn (fun _ _ h => h.elim) Bm fun ps rs hs => by
 unfold snS at hs
 split at hs
 ·rename_i cs i
  unfold snV at hs
  split at hs
  ·rename_i w hw
   split at hs
   ·rename_i hc
    obtain ⟨hi, hin⟩ := hc
    obtain ⟨n, rfl⟩ := Int.eq_ofNat_of_zero_le hi
    simp only [Option.some.injEq, Int.toNat_natCast] at hs hin
    subst hs
    obtain ⟨rfl, ok⟩ := BY hw
    have hwi : n < w.words.length := hin.wi
    have hti : n < w.tasks.length := hin.ti
    have hx := List.getElem?_eq_getElem hwi
    have ht := List.getElem?_eq_getElem hti
    have hrow := hin.row _ _ hx ht
    have hxl := ok.words _ (List.getElem_mem hwi)
    have htm := ok.tasks _ (List.getElem_mem hti)
    have e : sndR w n = sndC w n (At w.words[n]) w.tasks[n] := by unfold sndR; rw [hx, ht]
    rw [e]
    generalize w.words[n] = x at hx hrow hxl ⊢
    generalize w.tasks[n] = t at ht hrow htm ⊢
    have hwo : Ck x = true := by
     unfold rowOK at hrow
     rw [Bool.and_eq_true] at hrow
     exact hrow.1
    have hnice : ¬ (At x).kind = 0 → -20 ≤ t.nice ∧ t.nice ≤ 19 := fun hk => by
     unfold rowOK at hrow
     rw [hwo, if_neg hk, Bool.true_and] at hrow
     exact tskOK_nice hrow
    have hcpu : (At x).cpu < 64 := by unfold At; exact Nat.mod_lt _ (by decide)
    have hup := unpackS_ok hxl hwo
    have hpls := plsS_at (k := (At x).kind) (c := (At x).cpu) (s := (At x).seq) (g := (At x).gen) (b := (At x).bit) ok hin.pl
    have hrw : 0 ≤ (n : Int) ∧ (An w.words)[((n : Int)).toNat]? = some [du (x : Int)] := ⟨by omega, wrows_at hx⟩
    have hrt : 0 ≤ (n : Int) ∧ (Aq w.tasks)[((n : Int)).toNat]? = some t.cs := ⟨by omega, trows_at ht⟩
    have hq64 := hin.n64
    have hal := allS_at hq64
    obtain ⟨mn, hmn⟩ := Int.eq_ofNat_of_zero_le htm.1
    have hm64 : mn < 2 ^ 64 := by have := htm.2; rw [hmn] at this; exact_mod_cast this
    obtain ⟨tn, tm, tl⟩ := t
    simp only at hmn hnice
    subst hmn
    have hmask := andnI_ne hm64 hq64
    have hhas := hsS_at (c := (At x).cpu) hm64 hcpu
    have hwg : -20 ≤ tn ∧ tn ≤ 19 → wgS [.agg (Tsk.cs ⟨tn, (mn : Int), tl⟩)] = some [A5 (wgt tn)] := fun h => wgS_at (t := ⟨tn, mn, tl⟩) h
    unfold sndC
    simp only [Int.toNat_natCast]
    generalize At x = st at hnice hcpu hup hpls hhas ⊢
    obtain ⟨k, c, b, s, g⟩ := st
    simp only at hnice hcpu hup hpls hhas ⊢
    have lq : (Ak w.queues).length = w.queues.length := AD _
    rw [← lq] at hal
    by_cases h1 : c < w.queues.length
    ·have b1 : decide ((c : Int) ≥ ((Ak w.queues).length : Int)) = false := decide_eq_false (by rw [lq]; omega)
     rw [decide_eq_true h1, Bool.true_and]
     cases h2 : decide (mn < 2 ^ w.queues.length) with
     | false =>
      rw [h2] at hmask
      rw [← lq] at hmask
      exact A4 (sn_2 _ _ _ _ _ _ n x k c s g tn mn tl _ _ b) (A0 hrw (A0 hup (A0 hrt (A0 b1 (A0 hal (A0 rfl (A0 hmask A2)))))))
     | true =>
      rw [h2] at hmask
      rw [← lq] at hmask
      rw [Bool.true_and]
      cases h3 : plsR w n k c with
      | false =>
       rw [h3] at hpls
       exact A4 (sn_3 _ _ _ _ _ _ n x k c s g tn mn tl _ _ b) (A0 hrw (A0 hup (A0 hrt (A0 b1 (A0 hal (A0 rfl (A0 hmask (A0 hpls A2))))))))
      | true =>
       rw [h3] at hpls
       rw [Bool.true_and]
       cases h4 : ((k : Int) == 0) with
       | true => exact A4 (sn_4 _ _ _ _ _ _ n x k c s g tn mn tl _ _ b _) (A0 hrw (A0 hup (A0 hrt (A0 b1 (A0 hal (A0 rfl (A0 hmask (A0 hpls (A0 hhas (A0 h4 A2))))))))))
       | false =>
        have hk0 : ¬ k = 0 := by
         have := beq_eq_false_iff_ne.1 h4
         omega
        have hn := hnice hk0
        have hw1 := hwg hn
        rw [Bool.false_or]
        obtain ⟨q, hq⟩ : ∃ q, w.queues[c]? = some q := ⟨_, List.getElem?_eq_getElem h1⟩
        obtain ⟨hs, hst⟩ : ∃ hs, w.stops[c]? = some hs := ⟨_, List.getElem?_eq_getElem (by rw [hin.st]; exact h1)⟩
        have hqw : n < q.ws.length := hin.qw q (List.mem_of_getElem? hq)
        have hrq : 0 ≤ (c : Int) ∧ (Ak w.queues)[((c : Int)).toNat]? = some q.cs := ⟨by omega, BH hq⟩
        have hwa : wAt q n = q.ws[n] := by simp [wAt, hqw]
        have hri : 0 ≤ (n : Int) ∧ (A6 q.ws)[((n : Int)).toNat]? = some [di (wAt q n)] := ⟨by omega, by rw [hwa]; exact B2 (List.getElem?_eq_getElem hqw)⟩
        have hrs : 0 ≤ (c : Int) ∧ (Ao w.stops)[((c : Int)).toNat]? = some [.mn 2 (Aj hs)] := ⟨by omega, BG hst⟩
        have hct : ctS [.one (.mn 2 (Aj hs)), .agg [di (n : Int), di (g : Int)]] = some [A3 (hs.contains ((n : Int), (g : Int)))] := ctS_at (x := ((n : Int), (g : Int))) (hndM_mn hs) (by have := ok.ns hs (List.mem_of_getElem? hst); omega)
        rw [hq, hst]
        simp only [Option.getD_some]
        cases h5 : ((k : Int) == 4) with
        | true =>
         simp only [Bool.true_or, if_true]
         cases h7 : (tl == 0) with
         | false =>
          rw [Bool.false_and]
          exact A4 (sn_6q _ _ _ _ _ _ n x k c s g tn mn tl _ _ b _) (A0 hrw (A0 hup (A0 hrt (A0 b1 (A0 hal (A0 rfl (A0 hmask (A0 hpls (A0 hhas (A0 h4 (A0 h5 (A0 h7 A2))))))))))))
         | true =>
          rw [Bool.true_and]
          cases h8 : (wAt q n == wgt tn) with
          | false =>
           rw [Bool.false_and]
           exact A4 (sn_7q _ _ _ _ _ _ n x k c s g tn mn tl _ _ b _ q.root q.cur q.v q.m q.load (wAt q n) (wgt tn) (A9 q.ns) (A6 q.ws) (Aj hs)) (A0 hrw (A0 hup (A0 hrt (A0 b1 (A0 hal (A0 rfl (A0 hmask (A0 hpls (A0 hhas (A0 h4 (A0 h5 (A0 h7 (A0 hrq (A0 hri (A0 hw1 (A0 h8 A2))))))))))))))))
          | true =>
           rw [Bool.true_and]
           cases h9 : hasN mn c with
           | true =>
            rw [h9] at hhas
            rw [Bool.true_or]
            exact A4 (sn_8q _ _ _ _ _ _ n x k c s g tn mn tl _ _ b q.root q.cur q.v q.m q.load (wAt q n) (wgt tn) (A9 q.ns) (A6 q.ws) (Aj hs)) (A0 hrw (A0 hup (A0 hrt (A0 b1 (A0 hal (A0 rfl (A0 hmask (A0 hpls (A0 hhas (A0 h4 (A0 h5 (A0 h7 (A0 hrq (A0 hri (A0 hw1 (A0 h8 A2))))))))))))))))
           | false =>
            rw [h9] at hhas
            rw [Bool.false_or]
            exact A4 (sn_9q _ _ _ _ _ _ n x k c s g tn mn tl _ _ b _ q.root q.cur q.v q.m q.load (wAt q n) (wgt tn) (A9 q.ns) (A6 q.ws) (Aj hs)) (A0 hrw (A0 hup (A0 hrt (A0 b1 (A0 hal (A0 rfl (A0 hmask (A0 hpls (A0 hhas (A0 h4 (A0 h5 (A0 h7 (A0 hrq (A0 hri (A0 hw1 (A0 h8 (A0 hrs (A0 hct A2))))))))))))))))))
        | false =>
         cases h6 : ((k : Int) == 5) with
         | true =>
          simp only [Bool.or_true, if_true]
          cases h7 : (tl == 0) with
          | false =>
           rw [Bool.false_and]
           exact A4 (sn_6r _ _ _ _ _ _ n x k c s g tn mn tl _ _ b _) (A0 hrw (A0 hup (A0 hrt (A0 b1 (A0 hal (A0 rfl (A0 hmask (A0 hpls (A0 hhas (A0 h4 (A0 h5 (A0 h6 (A0 h7 A2)))))))))))))
          | true =>
           rw [Bool.true_and]
           cases h8 : (wAt q n == wgt tn) with
           | false =>
            rw [Bool.false_and]
            exact A4 (sn_7r _ _ _ _ _ _ n x k c s g tn mn tl _ _ b _ q.root q.cur q.v q.m q.load (wAt q n) (wgt tn) (A9 q.ns) (A6 q.ws) (Aj hs)) (A0 hrw (A0 hup (A0 hrt (A0 b1 (A0 hal (A0 rfl (A0 hmask (A0 hpls (A0 hhas (A0 h4 (A0 h5 (A0 h6 (A0 h7 (A0 hrq (A0 hri (A0 hw1 (A0 h8 A2)))))))))))))))))
           | true =>
            rw [Bool.true_and]
            cases h9 : hasN mn c with
            | true =>
             rw [h9] at hhas
             rw [Bool.true_or]
             exact A4 (sn_8r _ _ _ _ _ _ n x k c s g tn mn tl _ _ b q.root q.cur q.v q.m q.load (wAt q n) (wgt tn) (A9 q.ns) (A6 q.ws) (Aj hs)) (A0 hrw (A0 hup (A0 hrt (A0 b1 (A0 hal (A0 rfl (A0 hmask (A0 hpls (A0 hhas (A0 h4 (A0 h5 (A0 h6 (A0 h7 (A0 hrq (A0 hri (A0 hw1 (A0 h8 A2)))))))))))))))))
            | false =>
             rw [h9] at hhas
             rw [Bool.false_or]
             exact A4 (sn_9r _ _ _ _ _ _ n x k c s g tn mn tl _ _ b _ q.root q.cur q.v q.m q.load (wAt q n) (wgt tn) (A9 q.ns) (A6 q.ws) (Aj hs)) (A0 hrw (A0 hup (A0 hrt (A0 b1 (A0 hal (A0 rfl (A0 hmask (A0 hpls (A0 hhas (A0 h4 (A0 h5 (A0 h6 (A0 h7 (A0 hrq (A0 hri (A0 hw1 (A0 h8 (A0 hrs (A0 hct A2)))))))))))))))))))
         | false =>
          simp only [Bool.or_self, Bool.false_eq_true, if_false]
          exact A4 (sn_5 _ _ _ _ _ _ n x k c s g tn mn tl _ _ b _) (A0 hrw (A0 hup (A0 hrt (A0 b1 (A0 hal (A0 rfl (A0 hmask (A0 hpls (A0 hhas (A0 h4 (A0 h5 (A0 h6 A2))))))))))))
    ·have b1 : decide ((c : Int) ≥ ((Ak w.queues).length : Int)) = true := decide_eq_true (by rw [lq]; omega)
     rw [decide_eq_false h1, Bool.false_and]
     exact A4 (sn_1 _ _ _ _ _ _ n x k c s g tn mn tl 0 0 b) (A0 hrw (A0 hup (A0 hrt (A0 b1 A2))))
   ·cases hs
  ·cases hs
 ·cases hs)
theorem sl_sat : AJ C0 89 snS := AJ.ctx (C := CSl) rfl rfl (Af (O := Ab) hPSl (fun _ _ h => h.elim) Bm fun ps rs hs => by
 unfold snS at hs
 split at hs
 ·rename_i cs i
  unfold snV at hs
  split at hs
  ·rename_i w hw
   split at hs
   ·rename_i hc
    obtain ⟨hi, hin⟩ := hc
    obtain ⟨n, rfl⟩ := Int.eq_ofNat_of_zero_le hi
    simp only [Option.some.injEq, Int.toNat_natCast] at hs hin
    subst hs
    obtain ⟨rfl, ok⟩ := BY hw
    have hwi : n < w.words.length := hin.wi
    have hti : n < w.tasks.length := hin.ti
    have hx := List.getElem?_eq_getElem hwi
    have ht := List.getElem?_eq_getElem hti
    have hrow := hin.row _ _ hx ht
    have hxl := ok.words _ (List.getElem_mem hwi)
    have htm := ok.tasks _ (List.getElem_mem hti)
    have e : sndR w n = sndC w n (At w.words[n]) w.tasks[n] := by unfold sndR; rw [hx, ht]
    rw [e]
    generalize w.words[n] = x at hx hrow hxl ⊢
    generalize w.tasks[n] = t at ht hrow htm ⊢
    have hwo : Ck x = true := by
     unfold rowOK at hrow
     rw [Bool.and_eq_true] at hrow
     exact hrow.1
    have hnice : ¬ (At x).kind = 0 → -20 ≤ t.nice ∧ t.nice ≤ 19 := fun hk => by
     unfold rowOK at hrow
     rw [hwo, if_neg hk, Bool.true_and] at hrow
     exact tskOK_nice hrow
    have hcpu : (At x).cpu < 64 := by unfold At; exact Nat.mod_lt _ (by decide)
    have hup := saS_at ok hx hwo
    have hpls := plsS_at (k := (At x).kind) (c := (At x).cpu) (s := (At x).seq) (g := (At x).gen) (b := (At x).bit) ok hin.pl
    have hrw : 0 ≤ (n : Int) ∧ (An w.words)[((n : Int)).toNat]? = some [du (x : Int)] := ⟨by omega, wrows_at hx⟩
    have hrt : 0 ≤ (n : Int) ∧ (Aq w.tasks)[((n : Int)).toNat]? = some t.cs := ⟨by omega, trows_at ht⟩
    have hq64 := hin.n64
    have hal := allS_at hq64
    obtain ⟨mn, hmn⟩ := Int.eq_ofNat_of_zero_le htm.1
    have hm64 : mn < 2 ^ 64 := by have := htm.2; rw [hmn] at this; exact_mod_cast this
    obtain ⟨tn, tm, tl⟩ := t
    simp only at hmn hnice
    subst hmn
    have hmask := andI_ne hm64 hq64
    have hhas := hsS_at (c := (At x).cpu) hm64 hcpu
    have hwg : -20 ≤ tn ∧ tn ≤ 19 → wdS [.agg w.cs, A5 n] = some [A5 (wgt tn)] := fun h => wdS_at (t := ⟨tn, mn, tl⟩) ok ht h
    unfold sndC
    simp only [Int.toNat_natCast]
    generalize At x = st at hnice hcpu hup hpls hhas ⊢
    obtain ⟨k, c, b, s, g⟩ := st
    simp only at hnice hcpu hup hpls hhas ⊢
    have lq : (Ak w.queues).length = w.queues.length := AD _
    rw [← lq] at hal
    by_cases h1 : c < w.queues.length
    ·have b1 : decide ((c : Int) ≥ ((Ak w.queues).length : Int)) = false := decide_eq_false (by rw [lq]; omega)
     rw [decide_eq_true h1, Bool.true_and]
     cases h2 : decide (mn < 2 ^ w.queues.length) with
     | false =>
      rw [h2] at hmask
      rw [← lq] at hmask
      exact A4 (sl_2 _ _ _ _ _ _ n x k c s g tn mn tl _ _ b) (A0 hup (A0 hrt (A0 b1 (A0 hal (A0 rfl (A0 hmask A2))))))
     | true =>
      rw [h2] at hmask
      rw [← lq] at hmask
      rw [Bool.true_and]
      cases h3 : plsR w n k c with
      | false =>
       rw [h3] at hpls
       exact A4 (sl_3 _ _ _ _ _ _ n x k c s g tn mn tl _ _ b) (A0 hup (A0 hrt (A0 b1 (A0 hal (A0 rfl (A0 hmask (A0 hpls A2)))))))
      | true =>
       rw [h3] at hpls
       rw [Bool.true_and]
       cases h4 : ((k : Int) == 0) with
       | true => exact A4 (sl_4 _ _ _ _ _ _ n x k c s g tn mn tl _ _ b) (A0 hup (A0 hrt (A0 b1 (A0 hal (A0 rfl (A0 hmask (A0 hpls (A0 h4 A2))))))))
       | false =>
        have hk0 : ¬ k = 0 := by
         have := beq_eq_false_iff_ne.1 h4
         omega
        have hn := hnice hk0
        have hw1 := hwg hn
        rw [Bool.false_or]
        obtain ⟨q, hq⟩ : ∃ q, w.queues[c]? = some q := ⟨_, List.getElem?_eq_getElem h1⟩
        obtain ⟨hs, hst⟩ : ∃ hs, w.stops[c]? = some hs := ⟨_, List.getElem?_eq_getElem (by rw [hin.st]; exact h1)⟩
        have hqw : n < q.ws.length := hin.qw q (List.mem_of_getElem? hq)
        have hrq : 0 ≤ (c : Int) ∧ (Ak w.queues)[((c : Int)).toNat]? = some q.cs := ⟨by omega, BH hq⟩
        have hwa : wAt q n = q.ws[n] := by simp [wAt, hqw]
        have hri : 0 ≤ (n : Int) ∧ (A6 q.ws)[((n : Int)).toNat]? = some [di (wAt q n)] := ⟨by omega, by rw [hwa]; exact B2 (List.getElem?_eq_getElem hqw)⟩
        have hrs : 0 ≤ (c : Int) ∧ (Ao w.stops)[((c : Int)).toNat]? = some [.mn 2 (Aj hs)] := ⟨by omega, BG hst⟩
        have hct : ctS [.one (.mn 2 (Aj hs)), .agg [di (n : Int), di (g : Int)]] = some [A3 (hs.contains ((n : Int), (g : Int)))] := ctS_at (x := ((n : Int), (g : Int))) (hndM_mn hs) (by have := ok.ns hs (List.mem_of_getElem? hst); omega)
        rw [hq, hst]
        simp only [Option.getD_some]
        cases h5 : ((k : Int) == 4) with
        | true =>
         simp only [Bool.true_or, if_true]
         cases h7 : (tl == 0) with
         | false =>
          rw [Bool.false_and]
          exact A4 (sl_6q _ _ _ _ _ _ n x k c s g tn mn tl _ _ b _ _ _) (A0 hup (A0 hrt (A0 b1 (A0 hal (A0 rfl (A0 hmask (A0 hpls (A0 h4 (A0 hhas (A0 (by rw [bne, h5]; rfl) (A0 hrs (A0 hct (A0 h7 A2)))))))))))))
         | true =>
          rw [Bool.true_and]
          cases h8 : (wAt q n == wgt tn) with
          | false =>
           rw [Bool.false_and]
           exact A4 (sl_7q _ _ _ _ _ _ n x k c s g tn mn tl _ _ b _ _ q.root q.cur q.v q.m q.load (wAt q n) (wgt tn) (A9 q.ns) (A6 q.ws) (Aj hs)) (A0 hup (A0 hrt (A0 b1 (A0 hal (A0 rfl (A0 hmask (A0 hpls (A0 h4 (A0 hhas (A0 (by rw [bne, h5]; rfl) (A0 hrs (A0 hct (A0 h7 (A0 hrq (A0 hri (A0 hw1 (A0 h8 A2)))))))))))))))))
          | true =>
           rw [Bool.true_and]
           cases h9 : hasN mn c with
           | true =>
            rw [h9] at hhas
            rw [Bool.true_or]
            exact A4 (sl_8q _ _ _ _ _ _ n x k c s g tn mn tl _ _ b _ q.root q.cur q.v q.m q.load (wAt q n) (wgt tn) (A9 q.ns) (A6 q.ws) (Aj hs)) (A0 hup (A0 hrt (A0 b1 (A0 hal (A0 rfl (A0 hmask (A0 hpls (A0 h4 (A0 hhas (A0 (by rw [bne, h5]; rfl) (A0 hrs (A0 hct (A0 h7 (A0 hrq (A0 hri (A0 hw1 (A0 h8 A2)))))))))))))))))
           | false =>
            rw [h9] at hhas
            rw [Bool.false_or]
            exact A4 (sl_9q _ _ _ _ _ _ n x k c s g tn mn tl _ _ b _ q.root q.cur q.v q.m q.load (wAt q n) (wgt tn) (A9 q.ns) (A6 q.ws) (Aj hs)) (A0 hup (A0 hrt (A0 b1 (A0 hal (A0 rfl (A0 hmask (A0 hpls (A0 h4 (A0 hhas (A0 (by rw [bne, h5]; rfl) (A0 hrs (A0 hct (A0 h7 (A0 hrq (A0 hri (A0 hw1 (A0 h8 A2)))))))))))))))))
        | false =>
         cases h6 : ((k : Int) == 5) with
         | true =>
          simp only [Bool.or_true, if_true]
          cases h7 : (tl == 0) with
          | false =>
           rw [Bool.false_and]
           exact A4 (sl_6r _ _ _ _ _ _ n x k c s g tn mn tl _ _ b _ _ _) (A0 hup (A0 hrt (A0 b1 (A0 hal (A0 rfl (A0 hmask (A0 hpls (A0 h4 (A0 hhas (A0 (by rw [bne, h5]; rfl) (A0 (by rw [bne, h6]; rfl) (A0 hrs (A0 hct (A0 h7 A2))))))))))))))
          | true =>
           rw [Bool.true_and]
           cases h8 : (wAt q n == wgt tn) with
           | false =>
            rw [Bool.false_and]
            exact A4 (sl_7r _ _ _ _ _ _ n x k c s g tn mn tl _ _ b _ _ q.root q.cur q.v q.m q.load (wAt q n) (wgt tn) (A9 q.ns) (A6 q.ws) (Aj hs)) (A0 hup (A0 hrt (A0 b1 (A0 hal (A0 rfl (A0 hmask (A0 hpls (A0 h4 (A0 hhas (A0 (by rw [bne, h5]; rfl) (A0 (by rw [bne, h6]; rfl) (A0 hrs (A0 hct (A0 h7 (A0 hrq (A0 hri (A0 hw1 (A0 h8 A2))))))))))))))))))
           | true =>
            rw [Bool.true_and]
            cases h9 : hasN mn c with
            | true =>
             rw [h9] at hhas
             rw [Bool.true_or]
             exact A4 (sl_8r _ _ _ _ _ _ n x k c s g tn mn tl _ _ b _ q.root q.cur q.v q.m q.load (wAt q n) (wgt tn) (A9 q.ns) (A6 q.ws) (Aj hs)) (A0 hup (A0 hrt (A0 b1 (A0 hal (A0 rfl (A0 hmask (A0 hpls (A0 h4 (A0 hhas (A0 (by rw [bne, h5]; rfl) (A0 (by rw [bne, h6]; rfl) (A0 hrs (A0 hct (A0 h7 (A0 hrq (A0 hri (A0 hw1 (A0 h8 A2))))))))))))))))))
            | false =>
             rw [h9] at hhas
             rw [Bool.false_or]
             exact A4 (sl_9r _ _ _ _ _ _ n x k c s g tn mn tl _ _ b _ q.root q.cur q.v q.m q.load (wAt q n) (wgt tn) (A9 q.ns) (A6 q.ws) (Aj hs)) (A0 hup (A0 hrt (A0 b1 (A0 hal (A0 rfl (A0 hmask (A0 hpls (A0 h4 (A0 hhas (A0 (by rw [bne, h5]; rfl) (A0 (by rw [bne, h6]; rfl) (A0 hrs (A0 hct (A0 h7 (A0 hrq (A0 hri (A0 hw1 (A0 h8 A2))))))))))))))))))
         | false =>
          simp only [Bool.or_self, Bool.false_eq_true, if_false]
          exact A4 (sl_5 _ _ _ _ _ _ n x k c s g tn mn tl _ _ b _) (A0 hup (A0 hrt (A0 b1 (A0 hal (A0 rfl (A0 hmask (A0 hpls (A0 h4 (A0 hhas (A0 (by rw [bne, h5]; rfl) (A0 (by rw [bne, h6]; rfl) A2)))))))))))
    ·have b1 : decide ((c : Int) ≥ ((Ak w.queues).length : Int)) = true := decide_eq_true (by rw [lq]; omega)
     rw [decide_eq_false h1, Bool.false_and]
     exact A4 (sl_1 _ _ _ _ _ _ n x k c s g tn mn tl 0 0 b) (A0 hup (A0 hrt (A0 b1 A2)))
   ·cases hs
  ·cases hs
 ·cases hs)
noncomputable def CCr : Ctx := Ad (Ad (Ad (Ad (Ad (Ad C0 73 miS) 74 tabS) 75 queS) 76 (Bb CA)) 40 ctS) 77 snS
theorem hPCr : Aw CCr := A7 (A7 (A7 (A7 (A7 (A7 BN (mi_sat.ctx rfl rfl) (by kernel_rfl)) (tabR_sat.ctx rfl rfl) (by kernel_rfl)) (queP_sat.ctx rfl rfl) (by kernel_rfl)) (lRight_sat.ctx rfl rfl) (by kernel_rfl)) (ctP_sat.ctx rfl rfl) (by kernel_rfl)) (sn_sat.ctx rfl rfl) (by kernel_rfl)
noncomputable def CDr : Ctx := Ad (Ad (Ad (Ad (Ad C0 86 tabS) 87 queS) 88 (Bb CA)) 37 ctS) 89 snS
theorem hPDr : Aw CDr := A7 (A7 (A7 (A7 (A7 BN (tabD_sat.ctx rfl rfl) (by kernel_rfl)) (queD_sat.ctx rfl rfl) (by kernel_rfl)) (linksRight_sat.ctx rfl rfl) (by kernel_rfl)) (ctD_sat.ctx rfl rfl) (by kernel_rfl)) (sl_sat.ctx rfl rfl) (by kernel_rfl)
def crH (wd tk qr lr sr bw : A8) : H := { objs := [(A1 33 1, 1, [.cells ((AM wd tk qr lr sr bw).map .d) false])] }
def cr0 (wd tk qr lr sr bw : A8) (c : Int) : St := { σ := Ap 131 [(1, .ptr (A1 33 1) 0 0), (4, vi wd.length), (58, vi qr.length), (59, vi c)], h := crH wd tk qr lr sr bw }
def cr0O (wd tk qr lr sr bw : A8) : St := { σ := Ap 131 [(1, .ptr (A1 33 1) 0 0), (4, vi wd.length)], h := crH wd tk qr lr sr bw }
def cr1 (wd tk qr lr sr bw : A8) (c : Int) (hs : A8) (i : Int) : St := { σ := Ap 131 [(1, .ptr (A1 33 1) 0 0), (4, vi wd.length), (5, vi c), (58, vi qr.length), (59, vi c), (104, .d (.mn 2 hs)), (105, vi hs.length), (106, vi i)], h := crH wd tk qr lr sr bw }
def cr1O (wd tk qr lr sr bw : A8) (c : Int) : St := cr0 wd tk qr lr sr bw c
def cr2 (wd tk qr lr sr bw : A8) (i : Int) : St := { σ := Ap 131 [(1, .ptr (A1 33 1) 0 0), (122, vi wd.length), (123, vi i)], h := crH wd tk qr lr sr bw }
def cr2O (wd tk qr lr sr bw : A8) : St := { σ := Ap 131 [], h := crH wd tk qr lr sr bw }
def crR (wd tk qr lr sr bw : A8) : St := { σ := Ap 131 [(2, vb false)], h := crH wd tk qr lr sr bw }
theorem cr1_exit (wd tk qr lr sr bw : A8) (c i : Int) (hs : A8) : symM CCr Ab 60 33 false (BE Tryz.prog 33 1) (cr1 wd tk qr lr sr bw c hs i) [(A1 33 107, .b false)] [1, 4, 58, 59] = some ((.exit 2, cr1O wd tk qr lr sr bw c), [], [decide (i < (hs.length : Int)) = false]) := by kernel_rfl
theorem cr1_hit (wd tk qr lr sr bw : A8) (c i a b : Int) (p : Nat) (hs pre : A8) : symD CCr Ab 60 33 false (BE Tryz.prog 33 1) (cr1 wd tk qr lr sr bw c hs i) [(A1 33 107, .b true), (A1 33 109, .row [di a, di b]), (A1 33 114, .row [.mn 2 hs]), (A1 33 117, .cut 0 p hs.length (.d (.sl 2 false pre))), (A1 33 119, .prim [A3 true])] [2] [A1 33 7] = some ((.ret, crR wd tk qr lr sr bw), [], [decide (i < (hs.length : Int)) = true, 0 ≤ i ∧ hs[i.toNat]? = some [di a, di b], 0 ≤ c ∧ sr[c.toNat]? = some [.mn 2 hs], cutGoal 2 (.d (.mn 2 hs)) none (some i) none 0 p hs.length (.d (.sl 2 false pre)), ctS [.one (.sl 2 false pre), .agg [di a, di b]] = some [A3 true]] ++ td3) := by kernel_rfl
theorem cr1_step (wd tk qr lr sr bw : A8) (c i a b : Int) (p : Nat) (hs pre : A8) (i' : Int) (X : X) (st : St) : AY CCr Ab 60 (.code 33 false (BE Tryz.prog 33 1) (cr1 wd tk qr lr sr bw c hs i)) [(A1 33 107, .b true), (A1 33 109, .row [di a, di b]), (A1 33 114, .row [.mn 2 hs]), (A1 33 117, .cut 0 p hs.length (.d (.sl 2 false pre))), (A1 33 119, .prim [A3 false]), (A1 33 120, .int i'), (A1 33 8002, .drop [A1 33 7] [1, 4, 5, 58, 59, 104, 105, 106]), (A1 33 8001, .loop [1, 4, 5, 58, 59, 104, 105, 106] X st)] = some (.code X st, [], [decide (i < (hs.length : Int)) = true, 0 ≤ i ∧ hs[i.toNat]? = some [di a, di b], 0 ≤ c ∧ sr[c.toNat]? = some [.mn 2 hs], cutGoal 2 (.d (.mn 2 hs)) none (some i) none 0 p hs.length (.d (.sl 2 false pre)), ctS [.one (.sl 2 false pre), .agg [di a, di b]] = some [A3 false], IntKind.wrap .i64 (i + 1) = i', true = true, true = true, true = true, Ev CCr Ab (.code 33 false (BE Tryz.prog 33 1) (cr1 wd tk qr lr sr bw c hs i')) (.code X st)]) := by kernel_rfl
theorem cr0_exit (wd tk qr lr sr bw : A8) (c : Int) : symM CCr Ab 60 33 false (BE Tryz.prog 33 0) (cr0 wd tk qr lr sr bw c) [(A1 33 60, .b false)] [1, 4] = some ((.exit 0, cr0O wd tk qr lr sr bw), [], [decide (c < (qr.length : Int)) = false]) := by kernel_rfl
theorem cr0_1 (wd tk qr lr sr bw : A8) (c : Int) (root cur v m load hd : Int) (nsr wl nx hs : A8) : symM CCr Ab 60 33 false (BE Tryz.prog 33 0) (cr0 wd tk qr lr sr bw c) [(A1 33 60, .b true), (A1 33 65, .row (Bs root cur v m load nsr wl)), (A1 33 70, .b true)] [2] = some ((.ret, crR wd tk qr lr sr bw), [], [decide (c < (qr.length : Int)) = true, 0 ≤ c ∧ qr[c.toNat]? = some (Bs root cur v m load nsr wl), ((wl.length : Int) != (wd.length : Int)) = true]) := by kernel_rfl
theorem cr0_2 (wd tk qr lr sr bw : A8) (c : Int) (root cur v m load hd : Int) (nsr wl nx hs : A8) : symM CCr Ab 60 33 false (BE Tryz.prog 33 0) (cr0 wd tk qr lr sr bw c) [(A1 33 60, .b true), (A1 33 65, .row (Bs root cur v m load nsr wl)), (A1 33 70, .b false), (A1 33 75, .row [di hd, .mn 1 nx]), (A1 33 80, .b true)] [2] = some ((.ret, crR wd tk qr lr sr bw), [], [decide (c < (qr.length : Int)) = true, 0 ≤ c ∧ qr[c.toNat]? = some (Bs root cur v m load nsr wl), ((wl.length : Int) != (wd.length : Int)) = false, 0 ≤ c ∧ lr[c.toNat]? = some [di hd, .mn 1 nx], ((nx.length : Int) != (wd.length : Int)) = true]) := by kernel_rfl
theorem cr0_3 (wd tk qr lr sr bw : A8) (c : Int) (root cur v m load hd : Int) (nsr wl nx hs : A8) : symM CCr Ab 60 33 false (BE Tryz.prog 33 0) (cr0 wd tk qr lr sr bw c) [(A1 33 60, .b true), (A1 33 65, .row (Bs root cur v m load nsr wl)), (A1 33 70, .b false), (A1 33 75, .row [di hd, .mn 1 nx]), (A1 33 80, .b false), (A1 33 86, .row (Bs root cur v m load nsr wl)), (A1 33 88, .prim [A3 false])] [2] = some ((.ret, crR wd tk qr lr sr bw), [], [decide (c < (qr.length : Int)) = true, 0 ≤ c ∧ qr[c.toNat]? = some (Bs root cur v m load nsr wl), ((wl.length : Int) != (wd.length : Int)) = false, 0 ≤ c ∧ lr[c.toNat]? = some [di hd, .mn 1 nx], ((nx.length : Int) != (wd.length : Int)) = false, 0 ≤ c ∧ qr[c.toNat]? = some (Bs root cur v m load nsr wl), queS [.agg (Bs root cur v m load nsr wl)] = some [A3 false]]) := by kernel_rfl
theorem cr0_4 (wd tk qr lr sr bw : A8) (c : Int) (root cur v m load hd : Int) (nsr wl nx hs : A8) : symM CCr Ab 60 33 false (BE Tryz.prog 33 0) (cr0 wd tk qr lr sr bw c) [(A1 33 60, .b true), (A1 33 65, .row (Bs root cur v m load nsr wl)), (A1 33 70, .b false), (A1 33 75, .row [di hd, .mn 1 nx]), (A1 33 80, .b false), (A1 33 86, .row (Bs root cur v m load nsr wl)), (A1 33 88, .prim [A3 true]), (A1 33 95, .row [di hd, .mn 1 nx]), (A1 33 97, .prim [A3 false])] [2] = some ((.ret, crR wd tk qr lr sr bw), [], [decide (c < (qr.length : Int)) = true, 0 ≤ c ∧ qr[c.toNat]? = some (Bs root cur v m load nsr wl), ((wl.length : Int) != (wd.length : Int)) = false, 0 ≤ c ∧ lr[c.toNat]? = some [di hd, .mn 1 nx], ((nx.length : Int) != (wd.length : Int)) = false, 0 ≤ c ∧ qr[c.toNat]? = some (Bs root cur v m load nsr wl), queS [.agg (Bs root cur v m load nsr wl)] = some [A3 true], 0 ≤ c ∧ lr[c.toNat]? = some [di hd, .mn 1 nx], Bb CA [.agg [di hd, .mn 1 nx]] = some [A3 false]]) := by kernel_rfl
theorem cr0_5 (wd tk qr lr sr bw : A8) (c : Int) (root cur v m load hd : Int) (nsr wl nx hs : A8) : symM CCr Ab 60 33 false (BE Tryz.prog 33 0) (cr0 wd tk qr lr sr bw c) [(A1 33 60, .b true), (A1 33 65, .row (Bs root cur v m load nsr wl)), (A1 33 70, .b false), (A1 33 75, .row [di hd, .mn 1 nx]), (A1 33 80, .b false), (A1 33 86, .row (Bs root cur v m load nsr wl)), (A1 33 88, .prim [A3 true]), (A1 33 95, .row [di hd, .mn 1 nx]), (A1 33 97, .prim [A3 true]), (A1 33 103, .row [.mn 2 hs]), (A1 33 8001, .loop [1, 4, 5, 58, 59, 104, 105, 106] .ret (crR wd tk qr lr sr bw))] [2] = some ((.ret, crR wd tk qr lr sr bw), [], [decide (c < (qr.length : Int)) = true, 0 ≤ c ∧ qr[c.toNat]? = some (Bs root cur v m load nsr wl), ((wl.length : Int) != (wd.length : Int)) = false, 0 ≤ c ∧ lr[c.toNat]? = some [di hd, .mn 1 nx], ((nx.length : Int) != (wd.length : Int)) = false, 0 ≤ c ∧ qr[c.toNat]? = some (Bs root cur v m load nsr wl), queS [.agg (Bs root cur v m load nsr wl)] = some [A3 true], 0 ≤ c ∧ lr[c.toNat]? = some [di hd, .mn 1 nx], Bb CA [.agg [di hd, .mn 1 nx]] = some [A3 true], 0 ≤ c ∧ sr[c.toNat]? = some [.mn 2 hs], Ev CCr Ab (.code 33 false (BE Tryz.prog 33 1) (cr1 wd tk qr lr sr bw c hs 0)) (.code .ret (crR wd tk qr lr sr bw))]) := by kernel_rfl
theorem cr0_6 (wd tk qr lr sr bw : A8) (c c' : Int) (root cur v m load hd : Int) (nsr wl nx hs : A8) (X : X) (st : St) : AY CCr Ab 60 (.code 33 false (BE Tryz.prog 33 0) (cr0 wd tk qr lr sr bw c)) [(A1 33 60, .b true), (A1 33 65, .row (Bs root cur v m load nsr wl)), (A1 33 70, .b false), (A1 33 75, .row [di hd, .mn 1 nx]), (A1 33 80, .b false), (A1 33 86, .row (Bs root cur v m load nsr wl)), (A1 33 88, .prim [A3 true]), (A1 33 95, .row [di hd, .mn 1 nx]), (A1 33 97, .prim [A3 true]), (A1 33 103, .row [.mn 2 hs]), (A1 33 8001, .loop [1, 4, 5, 58, 59, 104, 105, 106] (.exit 2) (cr1O wd tk qr lr sr bw c)), (A1 33 121, .int c'), (A1 33 8001, .loop [1, 4, 58, 59] X st)] = some (.code X st, [], [decide (c < (qr.length : Int)) = true, 0 ≤ c ∧ qr[c.toNat]? = some (Bs root cur v m load nsr wl), ((wl.length : Int) != (wd.length : Int)) = false, 0 ≤ c ∧ lr[c.toNat]? = some [di hd, .mn 1 nx], ((nx.length : Int) != (wd.length : Int)) = false, 0 ≤ c ∧ qr[c.toNat]? = some (Bs root cur v m load nsr wl), queS [.agg (Bs root cur v m load nsr wl)] = some [A3 true], 0 ≤ c ∧ lr[c.toNat]? = some [di hd, .mn 1 nx], Bb CA [.agg [di hd, .mn 1 nx]] = some [A3 true], 0 ≤ c ∧ sr[c.toNat]? = some [.mn 2 hs], Ev CCr Ab (.code 33 false (BE Tryz.prog 33 1) (cr1 wd tk qr lr sr bw c hs 0)) (.code (.exit 2) (cr1O wd tk qr lr sr bw c)), IntKind.wrap .i64 (c + 1) = c', Ev CCr Ab (.code 33 false (BE Tryz.prog 33 0) (cr0 wd tk qr lr sr bw c')) (.code X st)]) := by kernel_rfl
theorem cr2_exit (wd tk qr lr sr bw : A8) (i : Int) : symM CCr Ab 60 33 false (BE Tryz.prog 33 2) (cr2 wd tk qr lr sr bw i) [(A1 33 124, .b false)] [] = some ((.exit 4, cr2O wd tk qr lr sr bw), [], [decide (i < (wd.length : Int)) = false]) := by kernel_rfl
theorem cr2_bad (wd tk qr lr sr bw : A8) (i : Int) : symM CCr Ab 60 33 false (BE Tryz.prog 33 2) (cr2 wd tk qr lr sr bw i) [(A1 33 124, .b true), (A1 33 128, .prim [A3 false])] [2] = some ((.ret, crR wd tk qr lr sr bw), [], [decide (i < (wd.length : Int)) = true, snS [.agg (AM wd tk qr lr sr bw), A5 i] = some [A3 false]]) := by kernel_rfl
theorem cr2_step (wd tk qr lr sr bw : A8) (i i' : Int) (X : X) (st : St) : AY CCr Ab 60 (.code 33 false (BE Tryz.prog 33 2) (cr2 wd tk qr lr sr bw i)) [(A1 33 124, .b true), (A1 33 128, .prim [A3 true]), (A1 33 130, .int i'), (A1 33 8001, .loop [1, 122, 123] X st)] = some (.code X st, [], [decide (i < (wd.length : Int)) = true, snS [.agg (AM wd tk qr lr sr bw), A5 i] = some [A3 true], IntKind.wrap .i64 (i + 1) = i', Ev CCr Ab (.code 33 false (BE Tryz.prog 33 2) (cr2 wd tk qr lr sr bw i')) (.code X st)]) := by kernel_rfl
theorem crw1 (wd tk qr lr sr bw : A8) : Cs CCr Ab 60 33 [.agg (AM wd tk qr lr sr bw)] [(A1 33 17, .b true)] = some ([A3 false], [], [decide ((qr.length : Int) < 1) = true]) := by kernel_rfl
theorem crw2 (wd tk qr lr sr bw : A8) : Cs CCr Ab 60 33 [.agg (AM wd tk qr lr sr bw)] [(A1 33 17, .b false), (A1 33 20, .b true)] = some ([A3 false], [], [decide ((qr.length : Int) < 1) = false, decide ((qr.length : Int) > 64) = true]) := by kernel_rfl
theorem crw3 (wd tk qr lr sr bw : A8) : Cs CCr Ab 60 33 [.agg (AM wd tk qr lr sr bw)] [(A1 33 17, .b false), (A1 33 20, .b false), (A1 33 27, .b true)] = some ([A3 false], [], [decide ((qr.length : Int) < 1) = false, decide ((qr.length : Int) > 64) = false, ((lr.length : Int) != (qr.length : Int)) = true]) := by kernel_rfl
theorem crw4 (wd tk qr lr sr bw : A8) : Cs CCr Ab 60 33 [.agg (AM wd tk qr lr sr bw)] [(A1 33 17, .b false), (A1 33 20, .b false), (A1 33 27, .b false), (A1 33 34, .b true)] = some ([A3 false], [], [decide ((qr.length : Int) < 1) = false, decide ((qr.length : Int) > 64) = false, ((lr.length : Int) != (qr.length : Int)) = false, ((sr.length : Int) != (qr.length : Int)) = true]) := by kernel_rfl
theorem crw5 (wd tk qr lr sr bw : A8) (n1 : Int) : Cs CCr Ab 60 33 [.agg (AM wd tk qr lr sr bw)] [(A1 33 17, .b false), (A1 33 20, .b false), (A1 33 27, .b false), (A1 33 34, .b false), (A1 33 42, .int n1), (A1 33 43, .b true)] = some ([A3 false], [], [decide ((qr.length : Int) < 1) = false, decide ((qr.length : Int) > 64) = false, ((lr.length : Int) != (qr.length : Int)) = false, ((sr.length : Int) != (qr.length : Int)) = false, IntKind.wrap .i64 ((qr.length : Int) + 1) = n1, ((bw.length : Int) != n1) = true]) := by kernel_rfl
theorem crw6 (wd tk qr lr sr bw : A8) (n1 : Int) (mn : Int) : Cs CCr Ab 60 33 [.agg (AM wd tk qr lr sr bw)] [(A1 33 17, .b false), (A1 33 20, .b false), (A1 33 27, .b false), (A1 33 34, .b false), (A1 33 42, .int n1), (A1 33 43, .b false), (A1 33 49, .prim [A5 mn]), (A1 33 50, .b true)] = some ([A3 false], [], [decide ((qr.length : Int) < 1) = false, decide ((qr.length : Int) > 64) = false, ((lr.length : Int) != (qr.length : Int)) = false, ((sr.length : Int) != (qr.length : Int)) = false, IntKind.wrap .i64 ((qr.length : Int) + 1) = n1, ((bw.length : Int) != n1) = false, miS [.one (.mn 1 bw)] = some [A5 mn], decide (mn < -1) = true]) := by kernel_rfl
theorem crw7 (wd tk qr lr sr bw : A8) (n1 : Int) (mn : Int) : Cs CCr Ab 60 33 [.agg (AM wd tk qr lr sr bw)] [(A1 33 17, .b false), (A1 33 20, .b false), (A1 33 27, .b false), (A1 33 34, .b false), (A1 33 42, .int n1), (A1 33 43, .b false), (A1 33 49, .prim [A5 mn]), (A1 33 50, .b false), (A1 33 55, .prim [A3 false])] = some ([A3 false], [], [decide ((qr.length : Int) < 1) = false, decide ((qr.length : Int) > 64) = false, ((lr.length : Int) != (qr.length : Int)) = false, ((sr.length : Int) != (qr.length : Int)) = false, IntKind.wrap .i64 ((qr.length : Int) + 1) = n1, ((bw.length : Int) != n1) = false, miS [.one (.mn 1 bw)] = some [A5 mn], decide (mn < -1) = false, tabS [.agg [.mn 1 wd, .mn 3 tk]] = some [A3 false]]) := by kernel_rfl
theorem crw9 (wd tk qr lr sr bw : A8) (n1 : Int) (mn : Int) : Cs CCr Ab 60 33 [.agg (AM wd tk qr lr sr bw)] [(A1 33 17, .b false), (A1 33 20, .b false), (A1 33 27, .b false), (A1 33 34, .b false), (A1 33 42, .int n1), (A1 33 43, .b false), (A1 33 49, .prim [A5 mn]), (A1 33 50, .b false), (A1 33 55, .prim [A3 true]), (A1 33 8001, .loop [1, 4, 58, 59] .ret (crR wd tk qr lr sr bw))] = some ([A3 false], [], [decide ((qr.length : Int) < 1) = false, decide ((qr.length : Int) > 64) = false, ((lr.length : Int) != (qr.length : Int)) = false, ((sr.length : Int) != (qr.length : Int)) = false, IntKind.wrap .i64 ((qr.length : Int) + 1) = n1, ((bw.length : Int) != n1) = false, miS [.one (.mn 1 bw)] = some [A5 mn], decide (mn < -1) = false, tabS [.agg [.mn 1 wd, .mn 3 tk]] = some [A3 true], Ev CCr Ab (.code 33 false (BE Tryz.prog 33 0) (cr0 wd tk qr lr sr bw 0)) (.code .ret (crR wd tk qr lr sr bw))]) := by kernel_rfl
theorem crw10 (wd tk qr lr sr bw : A8) (n1 : Int) (mn : Int) : Cs CCr Ab 60 33 [.agg (AM wd tk qr lr sr bw)] [(A1 33 17, .b false), (A1 33 20, .b false), (A1 33 27, .b false), (A1 33 34, .b false), (A1 33 42, .int n1), (A1 33 43, .b false), (A1 33 49, .prim [A5 mn]), (A1 33 50, .b false), (A1 33 55, .prim [A3 true]), (A1 33 8001, .loop [1, 4, 58, 59] (.exit 0) (cr0O wd tk qr lr sr bw)), (A1 33 8001, .loop [1, 122, 123] .ret (crR wd tk qr lr sr bw))] = some ([A3 false], [], [decide ((qr.length : Int) < 1) = false, decide ((qr.length : Int) > 64) = false, ((lr.length : Int) != (qr.length : Int)) = false, ((sr.length : Int) != (qr.length : Int)) = false, IntKind.wrap .i64 ((qr.length : Int) + 1) = n1, ((bw.length : Int) != n1) = false, miS [.one (.mn 1 bw)] = some [A5 mn], decide (mn < -1) = false, tabS [.agg [.mn 1 wd, .mn 3 tk]] = some [A3 true], Ev CCr Ab (.code 33 false (BE Tryz.prog 33 0) (cr0 wd tk qr lr sr bw 0)) (.code (.exit 0) (cr0O wd tk qr lr sr bw)), Ev CCr Ab (.code 33 false (BE Tryz.prog 33 2) (cr2 wd tk qr lr sr bw 0)) (.code .ret (crR wd tk qr lr sr bw))]) := by kernel_rfl
theorem crw11 (wd tk qr lr sr bw : A8) (n1 : Int) (mn : Int) : Cs CCr Ab 60 33 [.agg (AM wd tk qr lr sr bw)] [(A1 33 17, .b false), (A1 33 20, .b false), (A1 33 27, .b false), (A1 33 34, .b false), (A1 33 42, .int n1), (A1 33 43, .b false), (A1 33 49, .prim [A5 mn]), (A1 33 50, .b false), (A1 33 55, .prim [A3 true]), (A1 33 8001, .loop [1, 4, 58, 59] (.exit 0) (cr0O wd tk qr lr sr bw)), (A1 33 8001, .loop [1, 122, 123] (.exit 4) (cr2O wd tk qr lr sr bw))] = some ([A3 true], [], [decide ((qr.length : Int) < 1) = false, decide ((qr.length : Int) > 64) = false, ((lr.length : Int) != (qr.length : Int)) = false, ((sr.length : Int) != (qr.length : Int)) = false, IntKind.wrap .i64 ((qr.length : Int) + 1) = n1, ((bw.length : Int) != n1) = false, miS [.one (.mn 1 bw)] = some [A5 mn], decide (mn < -1) = false, tabS [.agg [.mn 1 wd, .mn 3 tk]] = some [A3 true], Ev CCr Ab (.code 33 false (BE Tryz.prog 33 0) (cr0 wd tk qr lr sr bw 0)) (.code (.exit 0) (cr0O wd tk qr lr sr bw)), Ev CCr Ab (.code 33 false (BE Tryz.prog 33 2) (cr2 wd tk qr lr sr bw 0)) (.code (.exit 4) (cr2O wd tk qr lr sr bw))]) := by kernel_rfl
def drH (wd tk qr lr sr bw : A8) : H := { objs := [(A1 46 1, 1, [.cells ((AM wd tk qr lr sr bw).map .d) false])] }
def dr0 (wd tk qr lr sr bw : A8) (c : Int) : St := { σ := Ap 141 [(1, .ptr (A1 46 1) 0 0), (3, vi qr.length), (4, vi wd.length), (6, vi c)], h := drH wd tk qr lr sr bw }
def dr0O (wd tk qr lr sr bw : A8) : St := { σ := Ap 141 [(1, .ptr (A1 46 1) 0 0), (4, vi wd.length)], h := drH wd tk qr lr sr bw }
def dr1 (wd tk qr lr sr bw : A8) (c : Int) (hs : A8) (i : Int) : St := { σ := Ap 141 [(1, .ptr (A1 46 1) 0 0), (3, vi qr.length), (4, vi wd.length), (6, vi c), (7, vi i)], h := drH wd tk qr lr sr bw }
def dr1O (wd tk qr lr sr bw : A8) (c : Int) : St := dr0 wd tk qr lr sr bw c
def dr2 (wd tk qr lr sr bw : A8) (i : Int) : St := { σ := Ap 141 [(1, .ptr (A1 46 1) 0 0), (4, vi wd.length), (8, vi i)], h := drH wd tk qr lr sr bw }
def drb (wd tk qr lr sr bw : A8) (i : Int) : St := { σ := Ap 141 [(1, .ptr (A1 46 1) 0 0), (3, vi qr.length), (4, vi wd.length), (5, vi i)], h := drH wd tk qr lr sr bw }
def drbO (wd tk qr lr sr bw : A8) : St := { σ := Ap 141 [(1, .ptr (A1 46 1) 0 0), (3, vi qr.length), (4, vi wd.length)], h := drH wd tk qr lr sr bw }
def dr2O (wd tk qr lr sr bw : A8) : St := { σ := Ap 141 [], h := drH wd tk qr lr sr bw }
def drR (wd tk qr lr sr bw : A8) : St := { σ := Ap 141 [(2, vb false)], h := drH wd tk qr lr sr bw }
theorem dr1_exit (wd tk qr lr sr bw : A8) (c i : Int) (hs : A8) : symM CDr Ab 60 46 false (BE Tryz.prog 46 2) (dr1 wd tk qr lr sr bw c hs i) [(A1 46 110, .row [.mn 2 hs]), (A1 46 113, .b false)] [1, 3, 4, 6] = some ((.exit 4, dr1O wd tk qr lr sr bw c), [], [0 ≤ c ∧ sr[c.toNat]? = some [.mn 2 hs], decide (i < (hs.length : Int)) = false]) := by kernel_rfl
theorem dr1_hit (wd tk qr lr sr bw : A8) (c i a b : Int) (p : Nat) (hs pre : A8) : symM CDr Ab 60 46 false (BE Tryz.prog 46 2) (dr1 wd tk qr lr sr bw c hs i) [(A1 46 110, .row [.mn 2 hs]), (A1 46 113, .b true), (A1 46 119, .row [.mn 2 hs]), (A1 46 122, .cut 0 p hs.length (.d (.sl 2 false pre))), (A1 46 126, .row [.mn 2 hs]), (A1 46 129, .row [di a, di b]), (A1 46 131, .prim [A3 true])] [2] = some ((.ret, drR wd tk qr lr sr bw), [], [0 ≤ c ∧ sr[c.toNat]? = some [.mn 2 hs], decide (i < (hs.length : Int)) = true, 0 ≤ c ∧ sr[c.toNat]? = some [.mn 2 hs], cutGoal 2 (.d (.mn 2 hs)) none (some i) none 0 p hs.length (.d (.sl 2 false pre)), 0 ≤ c ∧ sr[c.toNat]? = some [.mn 2 hs], 0 ≤ i ∧ hs[i.toNat]? = some [di a, di b], ctS [.one (.sl 2 false pre), .agg [di a, di b]] = some [A3 true]]) := by kernel_rfl
theorem dr1_step (wd tk qr lr sr bw : A8) (c i a b : Int) (p : Nat) (hs pre : A8) (i' : Int) (X : X) (st : St) : AY CDr Ab 60 (.code 46 false (BE Tryz.prog 46 2) (dr1 wd tk qr lr sr bw c hs i)) [(A1 46 110, .row [.mn 2 hs]), (A1 46 113, .b true), (A1 46 119, .row [.mn 2 hs]), (A1 46 122, .cut 0 p hs.length (.d (.sl 2 false pre))), (A1 46 126, .row [.mn 2 hs]), (A1 46 129, .row [di a, di b]), (A1 46 131, .prim [A3 false]), (A1 46 115, .int i'), (A1 46 8001, .loop [1, 3, 4, 6, 7] X st)] = some (.code X st, [], [0 ≤ c ∧ sr[c.toNat]? = some [.mn 2 hs], decide (i < (hs.length : Int)) = true, 0 ≤ c ∧ sr[c.toNat]? = some [.mn 2 hs], cutGoal 2 (.d (.mn 2 hs)) none (some i) none 0 p hs.length (.d (.sl 2 false pre)), 0 ≤ c ∧ sr[c.toNat]? = some [.mn 2 hs], 0 ≤ i ∧ hs[i.toNat]? = some [di a, di b], ctS [.one (.sl 2 false pre), .agg [di a, di b]] = some [A3 false], IntKind.wrap .i64 (i + 1) = i', Ev CDr Ab (.code 46 false (BE Tryz.prog 46 2) (dr1 wd tk qr lr sr bw c hs i')) (.code X st)]) := by kernel_rfl
theorem dr0_exit (wd tk qr lr sr bw : A8) (c : Int) : symM CDr Ab 60 46 false (BE Tryz.prog 46 1) (dr0 wd tk qr lr sr bw c) [(A1 46 65, .b false)] [1, 4] = some ((.exit 2, dr0O wd tk qr lr sr bw), [], [decide (c < (qr.length : Int)) = false]) := by kernel_rfl
theorem dr0_1 (wd tk qr lr sr bw : A8) (c : Int) (root cur v m load hd : Int) (nsr wl nx hs : A8) : symM CDr Ab 60 46 false (BE Tryz.prog 46 1) (dr0 wd tk qr lr sr bw c) [(A1 46 65, .b true), (A1 46 71, .row (Bs root cur v m load nsr wl)), (A1 46 76, .b true)] [2] = some ((.ret, drR wd tk qr lr sr bw), [], [decide (c < (qr.length : Int)) = true, 0 ≤ c ∧ qr[c.toNat]? = some (Bs root cur v m load nsr wl), ((wl.length : Int) != (wd.length : Int)) = true]) := by kernel_rfl
theorem dr0_2 (wd tk qr lr sr bw : A8) (c : Int) (root cur v m load hd : Int) (nsr wl nx hs : A8) : symM CDr Ab 60 46 false (BE Tryz.prog 46 1) (dr0 wd tk qr lr sr bw c) [(A1 46 65, .b true), (A1 46 71, .row (Bs root cur v m load nsr wl)), (A1 46 76, .b false), (A1 46 81, .row [di hd, .mn 1 nx]), (A1 46 86, .b true)] [2] = some ((.ret, drR wd tk qr lr sr bw), [], [decide (c < (qr.length : Int)) = true, 0 ≤ c ∧ qr[c.toNat]? = some (Bs root cur v m load nsr wl), ((wl.length : Int) != (wd.length : Int)) = false, 0 ≤ c ∧ lr[c.toNat]? = some [di hd, .mn 1 nx], ((nx.length : Int) != (wd.length : Int)) = true]) := by kernel_rfl
theorem dr0_3 (wd tk qr lr sr bw : A8) (c : Int) (root cur v m load hd : Int) (nsr wl nx hs : A8) : symM CDr Ab 60 46 false (BE Tryz.prog 46 1) (dr0 wd tk qr lr sr bw c) [(A1 46 65, .b true), (A1 46 71, .row (Bs root cur v m load nsr wl)), (A1 46 76, .b false), (A1 46 81, .row [di hd, .mn 1 nx]), (A1 46 86, .b false), (A1 46 92, .row (Bs root cur v m load nsr wl)), (A1 46 94, .prim [A3 false])] [2] = some ((.ret, drR wd tk qr lr sr bw), [], [decide (c < (qr.length : Int)) = true, 0 ≤ c ∧ qr[c.toNat]? = some (Bs root cur v m load nsr wl), ((wl.length : Int) != (wd.length : Int)) = false, 0 ≤ c ∧ lr[c.toNat]? = some [di hd, .mn 1 nx], ((nx.length : Int) != (wd.length : Int)) = false, 0 ≤ c ∧ qr[c.toNat]? = some (Bs root cur v m load nsr wl), queS [.agg (Bs root cur v m load nsr wl)] = some [A3 false]]) := by kernel_rfl
theorem dr0_4 (wd tk qr lr sr bw : A8) (c : Int) (root cur v m load hd : Int) (nsr wl nx hs : A8) : symM CDr Ab 60 46 false (BE Tryz.prog 46 1) (dr0 wd tk qr lr sr bw c) [(A1 46 65, .b true), (A1 46 71, .row (Bs root cur v m load nsr wl)), (A1 46 76, .b false), (A1 46 81, .row [di hd, .mn 1 nx]), (A1 46 86, .b false), (A1 46 92, .row (Bs root cur v m load nsr wl)), (A1 46 94, .prim [A3 true]), (A1 46 101, .row [di hd, .mn 1 nx]), (A1 46 103, .prim [A3 false])] [2] = some ((.ret, drR wd tk qr lr sr bw), [], [decide (c < (qr.length : Int)) = true, 0 ≤ c ∧ qr[c.toNat]? = some (Bs root cur v m load nsr wl), ((wl.length : Int) != (wd.length : Int)) = false, 0 ≤ c ∧ lr[c.toNat]? = some [di hd, .mn 1 nx], ((nx.length : Int) != (wd.length : Int)) = false, 0 ≤ c ∧ qr[c.toNat]? = some (Bs root cur v m load nsr wl), queS [.agg (Bs root cur v m load nsr wl)] = some [A3 true], 0 ≤ c ∧ lr[c.toNat]? = some [di hd, .mn 1 nx], Bb CA [.agg [di hd, .mn 1 nx]] = some [A3 false]]) := by kernel_rfl
theorem dr0_5 (wd tk qr lr sr bw : A8) (c : Int) (root cur v m load hd : Int) (nsr wl nx hs : A8) : symM CDr Ab 60 46 false (BE Tryz.prog 46 1) (dr0 wd tk qr lr sr bw c) [(A1 46 65, .b true), (A1 46 71, .row (Bs root cur v m load nsr wl)), (A1 46 76, .b false), (A1 46 81, .row [di hd, .mn 1 nx]), (A1 46 86, .b false), (A1 46 92, .row (Bs root cur v m load nsr wl)), (A1 46 94, .prim [A3 true]), (A1 46 101, .row [di hd, .mn 1 nx]), (A1 46 103, .prim [A3 true]), (A1 46 8001, .loop [1, 3, 4, 6, 7] .ret (drR wd tk qr lr sr bw))] [2] = some ((.ret, drR wd tk qr lr sr bw), [], [decide (c < (qr.length : Int)) = true, 0 ≤ c ∧ qr[c.toNat]? = some (Bs root cur v m load nsr wl), ((wl.length : Int) != (wd.length : Int)) = false, 0 ≤ c ∧ lr[c.toNat]? = some [di hd, .mn 1 nx], ((nx.length : Int) != (wd.length : Int)) = false, 0 ≤ c ∧ qr[c.toNat]? = some (Bs root cur v m load nsr wl), queS [.agg (Bs root cur v m load nsr wl)] = some [A3 true], 0 ≤ c ∧ lr[c.toNat]? = some [di hd, .mn 1 nx], Bb CA [.agg [di hd, .mn 1 nx]] = some [A3 true], Ev CDr Ab (.code 46 false (BE Tryz.prog 46 2) (dr1 wd tk qr lr sr bw c hs 0)) (.code .ret (drR wd tk qr lr sr bw))]) := by kernel_rfl
theorem dr0_6 (wd tk qr lr sr bw : A8) (c c' : Int) (root cur v m load hd : Int) (nsr wl nx hs : A8) (X : X) (st : St) : AY CDr Ab 60 (.code 46 false (BE Tryz.prog 46 1) (dr0 wd tk qr lr sr bw c)) [(A1 46 65, .b true), (A1 46 71, .row (Bs root cur v m load nsr wl)), (A1 46 76, .b false), (A1 46 81, .row [di hd, .mn 1 nx]), (A1 46 86, .b false), (A1 46 92, .row (Bs root cur v m load nsr wl)), (A1 46 94, .prim [A3 true]), (A1 46 101, .row [di hd, .mn 1 nx]), (A1 46 103, .prim [A3 true]), (A1 46 8001, .loop [1, 3, 4, 6, 7] (.exit 4) (dr1O wd tk qr lr sr bw c)), (A1 46 67, .int c'), (A1 46 8001, .loop [1, 3, 4, 6] X st)] = some (.code X st, [], [decide (c < (qr.length : Int)) = true, 0 ≤ c ∧ qr[c.toNat]? = some (Bs root cur v m load nsr wl), ((wl.length : Int) != (wd.length : Int)) = false, 0 ≤ c ∧ lr[c.toNat]? = some [di hd, .mn 1 nx], ((nx.length : Int) != (wd.length : Int)) = false, 0 ≤ c ∧ qr[c.toNat]? = some (Bs root cur v m load nsr wl), queS [.agg (Bs root cur v m load nsr wl)] = some [A3 true], 0 ≤ c ∧ lr[c.toNat]? = some [di hd, .mn 1 nx], Bb CA [.agg [di hd, .mn 1 nx]] = some [A3 true], Ev CDr Ab (.code 46 false (BE Tryz.prog 46 2) (dr1 wd tk qr lr sr bw c hs 0)) (.code (.exit 4) (dr1O wd tk qr lr sr bw c)), IntKind.wrap .i64 (c + 1) = c', Ev CDr Ab (.code 46 false (BE Tryz.prog 46 1) (dr0 wd tk qr lr sr bw c')) (.code X st)]) := by kernel_rfl
theorem dr2_exit (wd tk qr lr sr bw : A8) (i : Int) : symM CDr Ab 60 46 false (BE Tryz.prog 46 3) (dr2 wd tk qr lr sr bw i) [(A1 46 134, .b false)] [] = some ((.exit 6, dr2O wd tk qr lr sr bw), [], [decide (i < (wd.length : Int)) = false]) := by kernel_rfl
theorem dr2_bad (wd tk qr lr sr bw : A8) (i : Int) : symM CDr Ab 60 46 false (BE Tryz.prog 46 3) (dr2 wd tk qr lr sr bw i) [(A1 46 134, .b true), (A1 46 139, .prim [A3 false])] [2] = some ((.ret, drR wd tk qr lr sr bw), [], [decide (i < (wd.length : Int)) = true, snS [.agg (AM wd tk qr lr sr bw), A5 i] = some [A3 false]]) := by kernel_rfl
theorem dr2_step (wd tk qr lr sr bw : A8) (i i' : Int) (X : X) (st : St) : AY CDr Ab 60 (.code 46 false (BE Tryz.prog 46 3) (dr2 wd tk qr lr sr bw i)) [(A1 46 134, .b true), (A1 46 139, .prim [A3 true]), (A1 46 136, .int i'), (A1 46 8001, .loop [1, 4, 8] X st)] = some (.code X st, [], [decide (i < (wd.length : Int)) = true, snS [.agg (AM wd tk qr lr sr bw), A5 i] = some [A3 true], IntKind.wrap .i64 (i + 1) = i', Ev CDr Ab (.code 46 false (BE Tryz.prog 46 3) (dr2 wd tk qr lr sr bw i')) (.code X st)]) := by kernel_rfl
theorem drb_exit (wd tk qr lr sr bw : A8) (i : Int) : symM CDr Ab 60 46 false (BE Tryz.prog 46 0) (drb wd tk qr lr sr bw i) [(A1 46 53, .b false)] [1, 3, 4] = some ((.exit 0, drbO wd tk qr lr sr bw), [], [decide (i ≤ (qr.length : Int)) = false]) := by kernel_rfl
theorem drb_bad (wd tk qr lr sr bw : A8) (i y : Int) : symM CDr Ab 60 46 false (BE Tryz.prog 46 0) (drb wd tk qr lr sr bw i) [(A1 46 53, .b true), (A1 46 60, .row [di y]), (A1 46 62, .b true)] [2] = some ((.ret, drR wd tk qr lr sr bw), [], [decide (i ≤ (qr.length : Int)) = true, 0 ≤ i ∧ bw[i.toNat]? = some [di y], decide (y < -1) = true]) := by kernel_rfl
theorem drb_step (wd tk qr lr sr bw : A8) (i i' y : Int) (X : X) (st : St) : AY CDr Ab 60 (.code 46 false (BE Tryz.prog 46 0) (drb wd tk qr lr sr bw i)) [(A1 46 53, .b true), (A1 46 60, .row [di y]), (A1 46 62, .b false), (A1 46 55, .int i'), (A1 46 8001, .loop [1, 3, 4, 5] X st)] = some (.code X st, [], [decide (i ≤ (qr.length : Int)) = true, 0 ≤ i ∧ bw[i.toNat]? = some [di y], decide (y < -1) = false, IntKind.wrap .i64 (i + 1) = i', Ev CDr Ab (.code 46 false (BE Tryz.prog 46 0) (drb wd tk qr lr sr bw i')) (.code X st)]) := by kernel_rfl
theorem drw1 (wd tk qr lr sr bw : A8) : Cs CDr Ab 60 46 [.agg (AM wd tk qr lr sr bw)] [(A1 46 17, .b true)] = some ([A3 false], [], [decide ((qr.length : Int) < 1) = true]) := by kernel_rfl
theorem drw2 (wd tk qr lr sr bw : A8) : Cs CDr Ab 60 46 [.agg (AM wd tk qr lr sr bw)] [(A1 46 17, .b false), (A1 46 20, .b true)] = some ([A3 false], [], [decide ((qr.length : Int) < 1) = false, decide ((qr.length : Int) > 64) = true]) := by kernel_rfl
theorem drw3 (wd tk qr lr sr bw : A8) : Cs CDr Ab 60 46 [.agg (AM wd tk qr lr sr bw)] [(A1 46 17, .b false), (A1 46 20, .b false), (A1 46 27, .b true)] = some ([A3 false], [], [decide ((qr.length : Int) < 1) = false, decide ((qr.length : Int) > 64) = false, ((lr.length : Int) != (qr.length : Int)) = true]) := by kernel_rfl
theorem drw4 (wd tk qr lr sr bw : A8) : Cs CDr Ab 60 46 [.agg (AM wd tk qr lr sr bw)] [(A1 46 17, .b false), (A1 46 20, .b false), (A1 46 27, .b false), (A1 46 34, .b true)] = some ([A3 false], [], [decide ((qr.length : Int) < 1) = false, decide ((qr.length : Int) > 64) = false, ((lr.length : Int) != (qr.length : Int)) = false, ((sr.length : Int) != (qr.length : Int)) = true]) := by kernel_rfl
theorem drw5 (wd tk qr lr sr bw : A8) (n1 : Int) : Cs CDr Ab 60 46 [.agg (AM wd tk qr lr sr bw)] [(A1 46 17, .b false), (A1 46 20, .b false), (A1 46 27, .b false), (A1 46 34, .b false), (A1 46 42, .int n1), (A1 46 43, .b true)] = some ([A3 false], [], [decide ((qr.length : Int) < 1) = false, decide ((qr.length : Int) > 64) = false, ((lr.length : Int) != (qr.length : Int)) = false, ((sr.length : Int) != (qr.length : Int)) = false, IntKind.wrap .i64 ((qr.length : Int) + 1) = n1, ((bw.length : Int) != n1) = true]) := by kernel_rfl
theorem drw7 (wd tk qr lr sr bw : A8) (n1 : Int) : Cs CDr Ab 60 46 [.agg (AM wd tk qr lr sr bw)] [(A1 46 17, .b false), (A1 46 20, .b false), (A1 46 27, .b false), (A1 46 34, .b false), (A1 46 42, .int n1), (A1 46 43, .b false), (A1 46 48, .prim [A3 false])] = some ([A3 false], [], [decide ((qr.length : Int) < 1) = false, decide ((qr.length : Int) > 64) = false, ((lr.length : Int) != (qr.length : Int)) = false, ((sr.length : Int) != (qr.length : Int)) = false, IntKind.wrap .i64 ((qr.length : Int) + 1) = n1, ((bw.length : Int) != n1) = false, tabS [.agg [.mn 1 wd, .mn 3 tk]] = some [A3 false]]) := by kernel_rfl
theorem drw8 (wd tk qr lr sr bw : A8) (n1 : Int) : Cs CDr Ab 60 46 [.agg (AM wd tk qr lr sr bw)] [(A1 46 17, .b false), (A1 46 20, .b false), (A1 46 27, .b false), (A1 46 34, .b false), (A1 46 42, .int n1), (A1 46 43, .b false), (A1 46 48, .prim [A3 true]), (A1 46 8001, .loop [1, 3, 4, 5] .ret (drR wd tk qr lr sr bw))] = some ([A3 false], [], [decide ((qr.length : Int) < 1) = false, decide ((qr.length : Int) > 64) = false, ((lr.length : Int) != (qr.length : Int)) = false, ((sr.length : Int) != (qr.length : Int)) = false, IntKind.wrap .i64 ((qr.length : Int) + 1) = n1, ((bw.length : Int) != n1) = false, tabS [.agg [.mn 1 wd, .mn 3 tk]] = some [A3 true], Ev CDr Ab (.code 46 false (BE Tryz.prog 46 0) (drb wd tk qr lr sr bw 0)) (.code .ret (drR wd tk qr lr sr bw))]) := by kernel_rfl
theorem drw9 (wd tk qr lr sr bw : A8) (n1 : Int) : Cs CDr Ab 60 46 [.agg (AM wd tk qr lr sr bw)] [(A1 46 17, .b false), (A1 46 20, .b false), (A1 46 27, .b false), (A1 46 34, .b false), (A1 46 42, .int n1), (A1 46 43, .b false), (A1 46 48, .prim [A3 true]), (A1 46 8001, .loop [1, 3, 4, 5] (.exit 0) (drbO wd tk qr lr sr bw)), (A1 46 8001, .loop [1, 3, 4, 6] .ret (drR wd tk qr lr sr bw))] = some ([A3 false], [], [decide ((qr.length : Int) < 1) = false, decide ((qr.length : Int) > 64) = false, ((lr.length : Int) != (qr.length : Int)) = false, ((sr.length : Int) != (qr.length : Int)) = false, IntKind.wrap .i64 ((qr.length : Int) + 1) = n1, ((bw.length : Int) != n1) = false, tabS [.agg [.mn 1 wd, .mn 3 tk]] = some [A3 true], Ev CDr Ab (.code 46 false (BE Tryz.prog 46 0) (drb wd tk qr lr sr bw 0)) (.code (.exit 0) (drbO wd tk qr lr sr bw)), Ev CDr Ab (.code 46 false (BE Tryz.prog 46 1) (dr0 wd tk qr lr sr bw 0)) (.code .ret (drR wd tk qr lr sr bw))]) := by kernel_rfl
theorem drw10 (wd tk qr lr sr bw : A8) (n1 : Int) : Cs CDr Ab 60 46 [.agg (AM wd tk qr lr sr bw)] [(A1 46 17, .b false), (A1 46 20, .b false), (A1 46 27, .b false), (A1 46 34, .b false), (A1 46 42, .int n1), (A1 46 43, .b false), (A1 46 48, .prim [A3 true]), (A1 46 8001, .loop [1, 3, 4, 5] (.exit 0) (drbO wd tk qr lr sr bw)), (A1 46 8001, .loop [1, 3, 4, 6] (.exit 2) (dr0O wd tk qr lr sr bw)), (A1 46 8001, .loop [1, 4, 8] .ret (drR wd tk qr lr sr bw))] = some ([A3 false], [], [decide ((qr.length : Int) < 1) = false, decide ((qr.length : Int) > 64) = false, ((lr.length : Int) != (qr.length : Int)) = false, ((sr.length : Int) != (qr.length : Int)) = false, IntKind.wrap .i64 ((qr.length : Int) + 1) = n1, ((bw.length : Int) != n1) = false, tabS [.agg [.mn 1 wd, .mn 3 tk]] = some [A3 true], Ev CDr Ab (.code 46 false (BE Tryz.prog 46 0) (drb wd tk qr lr sr bw 0)) (.code (.exit 0) (drbO wd tk qr lr sr bw)), Ev CDr Ab (.code 46 false (BE Tryz.prog 46 1) (dr0 wd tk qr lr sr bw 0)) (.code (.exit 2) (dr0O wd tk qr lr sr bw)), Ev CDr Ab (.code 46 false (BE Tryz.prog 46 3) (dr2 wd tk qr lr sr bw 0)) (.code .ret (drR wd tk qr lr sr bw))]) := by kernel_rfl
theorem drw11 (wd tk qr lr sr bw : A8) (n1 : Int) : Cs CDr Ab 60 46 [.agg (AM wd tk qr lr sr bw)] [(A1 46 17, .b false), (A1 46 20, .b false), (A1 46 27, .b false), (A1 46 34, .b false), (A1 46 42, .int n1), (A1 46 43, .b false), (A1 46 48, .prim [A3 true]), (A1 46 8001, .loop [1, 3, 4, 5] (.exit 0) (drbO wd tk qr lr sr bw)), (A1 46 8001, .loop [1, 3, 4, 6] (.exit 2) (dr0O wd tk qr lr sr bw)), (A1 46 8001, .loop [1, 4, 8] (.exit 6) (dr2O wd tk qr lr sr bw))] = some ([A3 true], [], [decide ((qr.length : Int) < 1) = false, decide ((qr.length : Int) > 64) = false, ((lr.length : Int) != (qr.length : Int)) = false, ((sr.length : Int) != (qr.length : Int)) = false, IntKind.wrap .i64 ((qr.length : Int) + 1) = n1, ((bw.length : Int) != n1) = false, tabS [.agg [.mn 1 wd, .mn 3 tk]] = some [A3 true], Ev CDr Ab (.code 46 false (BE Tryz.prog 46 0) (drb wd tk qr lr sr bw 0)) (.code (.exit 0) (drbO wd tk qr lr sr bw)), Ev CDr Ab (.code 46 false (BE Tryz.prog 46 1) (dr0 wd tk qr lr sr bw 0)) (.code (.exit 2) (dr0O wd tk qr lr sr bw)), Ev CDr Ab (.code 46 false (BE Tryz.prog 46 3) (dr2 wd tk qr lr sr bw 0)) (.code (.exit 6) (dr2O wd tk qr lr sr bw))]) := by kernel_rfl
def disO (hs : List Hnd) (j : Nat) : Bool := match hs[j]? with
 | some h => !(hs.take j).contains h
 | none => true
def disH (hs : List Hnd) (i : Nat) : Bool := ((List.range hs.length).drop i).all (disO hs)
def cpuR (w : Wld) (c : Nat) : Bool := match w.queues[c]?, w.lists[c]?, w.stops[c]? with
 | some q, some l, some hs => !((q.ws.length : Int) != (w.words.length : Int)) && (!((l.next.length : Int) != (w.words.length : Int)) && (q.right && ((Cm l.head l.next).isSome && disH hs 0)))
 | _, _, _ => true
def cpuA (w : Wld) (c : Nat) : Bool := ((List.range w.queues.length).drop c).all (cpuR w)
def sndA (w : Wld) (i : Nat) : Bool := ((List.range w.words.length).drop i).all (sndR w)
def bysA (w : Wld) (i : Nat) : Bool := (w.bys.drop i).all fun y => !decide (y < -1)
def wR (w : Wld) : Bool := !decide ((w.queues.length : Int) < 1) && (!decide ((w.queues.length : Int) > 64) && (!((w.lists.length : Int) != (w.queues.length : Int)) && (!((w.stops.length : Int) != (w.queues.length : Int)) &&
 (!((w.bys.length : Int) != ((w.queues.length + 1 : Nat) : Int)) && (bysA w 0 && (tabOK w.words w.tasks && (cpuA w 0 && sndA w 0)))))))
theorem Be (l : List Nat) : (An l).length = l.length := by simp [An]
theorem trows_len (l : List Tsk) : (Aq l).length = l.length := by simp [Aq]
theorem srows_len (l : List (List Hnd)) : (Ao l).length = l.length := by simp [Ao]
theorem tabS_at {w : Wld} (ok : w.Ok) : tabS [.agg [.mn 1 (An w.words), .mn 3 (Aq w.tasks)]] = some [A3 (tabOK w.words w.tasks)] := by
 have h1 : Ae wordR (An w.words) = some w.words := Ca fun x hx => by
  have := ok.words x hx
  simp only [wordR, du]
  rw [if_pos ⟨by omega, by exact_mod_cast this⟩, Int.toNat_natCast]
 have h2 : Ae tskR (Aq w.tasks) = some w.tasks := Ca fun t _ => rfl
 simp only [tabS, h1, h2]
theorem lnkS_at (l : Lst) : Bb CA [.agg l.cs] = some [A3 (Cm l.head l.next).isSome] := by
 simp only [Lst.cs, di, Bb, Br, CA]
theorem tab_rows {ws : List Nat} {ts : List Tsk} (h : tabOK ws ts = true) : ws.length ≤ 64 ∧ ws.length = ts.length ∧ ∀ (i : Nat) x t, ws[i]? = some x → ts[i]? = some t → rowOK x t = true := by
 unfold tabOK at h
 rw [Bool.and_eq_true, Bool.and_eq_true] at h
 obtain ⟨h1, h2, h3⟩ := h
 refine ⟨of_decide_eq_true h1, of_decide_eq_true h2, fun i x t hx ht => ?_⟩
 unfold Cg at h3
 rw [List.drop_zero, List.all_eq_true] at h3
 refine h3 (x, t) (List.mem_of_getElem? (i := i) ?_)
 rw [List.getElem?_zip_eq_some]
 exact ⟨hx, ht⟩
theorem cpu_all {w : Wld} (h : cpuA w 0 = true) (hl : w.lists.length = w.queues.length) (hs : w.stops.length = w.queues.length) : ∀ c (hc : c < w.queues.length), (w.queues[c]).ws.length = w.words.length ∧ (w.lists[c]'(by omega)).next.length = w.words.length ∧ (w.queues[c]).right = true := by
 intro c hc
 unfold cpuA at h
 rw [List.drop_zero, List.all_eq_true] at h
 have := h c (List.mem_range.2 hc)
 unfold cpuR at this
 rw [List.getElem?_eq_getElem hc, List.getElem?_eq_getElem (show c < w.lists.length by omega), List.getElem?_eq_getElem (show c < w.stops.length by omega)] at this
 simp only [Bool.and_eq_true, Bool.not_eq_true'] at this
 obtain ⟨a, b, c, -⟩ := this
 refine ⟨?_, ?_, c⟩
 ·have := bne_eq_false_iff_eq.1 a; omega
 ·have := bne_eq_false_iff_eq.1 b; omega
theorem right_ws {q : Que} (h : q.right = true) : q.ws.length = q.ns.length := by
 unfold Que.right at h
 simp only [Bool.and_eq_true] at h
 exact of_decide_eq_true h.2.1
theorem snd_in {w : Wld} (h1 : 1 ≤ w.queues.length) (h64 : w.queues.length ≤ 64) (hl : w.lists.length = w.queues.length) (hs : w.stops.length = w.queues.length) (ht : tabOK w.words w.tasks = true) (hc : cpuA w 0 = true) {i : Nat} (hi : i < w.words.length) : SndIn w i := by
 obtain ⟨-, t2, t3⟩ := tab_rows ht
 have hk := cpu_all hc hl hs
 have hq : ∀ q ∈ w.queues, i < q.ws.length ∧ i < q.ns.length := fun q hq => by
  obtain ⟨c, hcl, rfl⟩ := List.getElem_of_mem hq
  obtain ⟨a, -, b⟩ := hk c hcl
  have := right_ws b
  omega
 refine ⟨hi, by omega, t3 i, h1, h64, ⟨hl, fun q hm => (hq q hm).2, fun l hm => ?_⟩, hs, fun q hm => (hq q hm).1⟩
 obtain ⟨c, hcl, rfl⟩ := List.getElem_of_mem hm
 have := (hk c (by omega)).2.1
 omega
theorem cut_at (hs : List Hnd) {i : Nat} (hi : i < hs.length) : cutGoal 2 (.d (.mn 2 (Aj hs))) none (some (i : Int)) none 0 i (Aj hs).length (.d (.sl 2 false (Aj (hs.take i)))) := by
 have hl := AW hs
 refine ⟨⟨rfl, by omega⟩, rfl, rfl, rfl, by omega, by omega, Nat.le_refl _, ?_⟩
 have : (List.take (i - 0) (List.drop 0 (Aj hs))) = Aj (hs.take i) := by simp [Aj, List.map_take]
 rw [this]; rfl
open Classical in
noncomputable def wrV : Option Wld → Option (List PV)
 | some w => some [A3 (wR w)]
 | none => none
noncomputable def wrS : Spec
 | [.agg cs] => wrV (wldR cs)
 | _ => none
theorem wrS_at {w : Wld} (ok : w.Ok) : wrS [.agg w.cs] = some [A3 (wR w)] := by
 show wrV (wldR w.cs) = _
 rw [wldR_cs ok]; rfl
def crZ (w : Wld) (e : Nat) (o : St) (b : Bool) : X × St := if b then (.exit e, o) else (.ret, crR (An w.words) (Aq w.tasks) (Ak w.queues) (As w.lists) (Ao w.stops) (A6 w.bys))
theorem cr_l1 (w : Wld) (ok : w.Ok) (c : Nat) (hs : List Hnd) (hst : w.stops[c]? = some hs) : ∀ (d i : Nat), i + d = hs.length →
  Ev CCr Ab (.code 33 false (BE Tryz.prog 33 1) (cr1 (An w.words) (Aq w.tasks) (Ak w.queues) (As w.lists) (Ao w.stops) (A6 w.bys) c (Aj hs) i)) (.code (crZ w 2 (cr1O (An w.words) (Aq w.tasks) (Ak w.queues) (As w.lists) (Ao w.stops) (A6 w.bys) c) (disH hs i)).1 (crZ w 2 (cr1O (An w.words) (Aq w.tasks) (Ak w.queues) (As w.lists) (Ao w.stops) (A6 w.bys) c) (disH hs i)).2)
 | 0, i, h => by
  have hz : disH hs i = true := by unfold disH; rw [range_end (by omega)]; rfl
  rw [hz]
  exact Ac (cr1_exit _ _ _ _ _ _ _ _ _) (A0 (by rw [AW]; exact dge (by omega)) A2)
 | d + 1, i, h => by
  have hi : i < hs.length := by omega
  have hn := ok.ns hs (List.mem_of_getElem? hst)
  have ih := cr_l1 w ok c hs hst d (i + 1) (by omega)
  have hd : disH hs i = (!((hs.take i).contains hs[i]) && disH hs (i + 1)) := by
   show ((List.range hs.length).drop i).all (disO hs) = _
   rw [Cl hi, List.all_cons]
   simp only [disO, List.getElem?_eq_getElem hi]
   rfl
  have b0 : decide ((i : Int) < ((Aj hs).length : Int)) = true := by rw [AW]; exact dlt hi
  have hr : 0 ≤ (i : Int) ∧ (Aj hs)[((i : Int)).toNat]? = some (hD hs[i]) := ⟨by omega, hrows_at (List.getElem?_eq_getElem hi)⟩
  have hst2 : 0 ≤ (c : Int) ∧ (Ao w.stops)[((c : Int)).toNat]? = some [.mn 2 (Aj hs)] := ⟨by omega, BG hst⟩
  have hcut := cut_at hs hi
  have hct := ctS_at (x := hs[i]) (hndM_sl false (hs.take i)) (by rw [List.length_take]; omega)
  rw [hd]
  cases hx : (hs.take i).contains hs[i] with
  | true =>
   rw [hx] at hct
   exact B4 (cr1_hit _ _ _ _ _ _ c i _ _ _ _ _) (AQ (A0 b0 (A0 hr (A0 hst2 (A0 hcut (A0 hct A2))))) td3_ok)
  | false =>
   rw [hx] at hct
   rw [Bool.not_false, Bool.true_and]
   exact Aa _ _ _ _ _ _ (cr1_step _ _ _ _ _ _ c i _ _ _ _ _ ((i + 1 : Nat) : Int) _ _) (A0 b0 (A0 hr (A0 hst2 (A0 hcut (A0 hct (A0 (Ag (by omega)) (A0 rfl (A0 rfl (A0 rfl (A0 ih A2))))))))))
theorem cr_l0 (w : Wld) (ok : w.Ok) (hl : w.lists.length = w.queues.length) (hst : w.stops.length = w.queues.length) : ∀ (d i : Nat), i + d = w.queues.length →
  Ev CCr Ab (.code 33 false (BE Tryz.prog 33 0) (cr0 (An w.words) (Aq w.tasks) (Ak w.queues) (As w.lists) (Ao w.stops) (A6 w.bys) i)) (.code (crZ w 0 (cr0O (An w.words) (Aq w.tasks) (Ak w.queues) (As w.lists) (Ao w.stops) (A6 w.bys)) (cpuA w i)).1 (crZ w 0 (cr0O (An w.words) (Aq w.tasks) (Ak w.queues) (As w.lists) (Ao w.stops) (A6 w.bys)) (cpuA w i)).2)
 | 0, i, h => by
  have hz : cpuA w i = true := by unfold cpuA; rw [range_end (by omega)]; rfl
  rw [hz]
  exact Ac (cr0_exit _ _ _ _ _ _ _) (A0 (by rw [AD]; exact dge (by omega)) A2)
 | d + 1, i, h => by
  have hi : i < w.queues.length := by omega
  have hil : i < w.lists.length := by omega
  have his : i < w.stops.length := by omega
  have hnq := ok.nq
  have ih := cr_l0 w ok hl hst d (i + 1) (by omega)
  have hd : cpuA w i = (cpuR w i && cpuA w (i + 1)) := by
   show ((List.range w.queues.length).drop i).all (cpuR w) = _
   rw [Cl hi, List.all_cons]
   rfl
  have hh := cr_l1 w ok i w.stops[i] (List.getElem?_eq_getElem his) (w.stops[i]).length 0 (by omega)
  have hc : cpuR w i = (!(((w.queues[i]).ws.length : Int) != (w.words.length : Int)) && (!(((w.lists[i]).next.length : Int) != (w.words.length : Int)) && ((w.queues[i]).right && ((Cm (w.lists[i]).head (w.lists[i]).next).isSome && disH w.stops[i] 0)))) := by
   simp only [cpuR, List.getElem?_eq_getElem hi, List.getElem?_eq_getElem hil, List.getElem?_eq_getElem his]
  have b0 : decide ((i : Int) < ((Ak w.queues).length : Int)) = true := by rw [AD]; exact dlt hi
  have hq : 0 ≤ (i : Int) ∧ (Ak w.queues)[((i : Int)).toNat]? = some (w.queues[i]).cs := ⟨by omega, BH (List.getElem?_eq_getElem hi)⟩
  have hli : 0 ≤ (i : Int) ∧ (As w.lists)[((i : Int)).toNat]? = some (w.lists[i]).cs := ⟨by omega, lrows_at (List.getElem?_eq_getElem hil)⟩
  have hs2 : 0 ≤ (i : Int) ∧ (Ao w.stops)[((i : Int)).toNat]? = some [.mn 2 (Aj w.stops[i])] := ⟨by omega, BG (List.getElem?_eq_getElem his)⟩
  have hqs := queS_at (ok.queues _ (List.getElem_mem hi))
  have hls := lnkS_at w.lists[i]
  rw [hd, hc]
  generalize w.queues[i] = q at hq hqs ⊢
  generalize w.lists[i] = l at hli hls ⊢
  generalize w.stops[i] = hs at hs2 hh ⊢
  have e1 : (((A6 q.ws).length : Int) != ((An w.words).length : Int)) = ((q.ws.length : Int) != (w.words.length : Int)) := by rw [Ax, Be]
  have e2 : (((A6 l.next).length : Int) != ((An w.words).length : Int)) = ((l.next.length : Int) != (w.words.length : Int)) := by rw [Ax, Be]
  cases t1 : ((q.ws.length : Int) != (w.words.length : Int)) with
  | true => exact Ac (cr0_1 _ _ _ _ _ _ i q.root q.cur q.v q.m q.load l.head (A9 q.ns) (A6 q.ws) (A6 l.next) (Aj hs)) (A0 b0 (A0 hq (A0 (e1.trans t1) A2)))
  | false =>
   rw [Bool.not_false, Bool.true_and]
   cases t2 : ((l.next.length : Int) != (w.words.length : Int)) with
   | true => exact Ac (cr0_2 _ _ _ _ _ _ i q.root q.cur q.v q.m q.load l.head (A9 q.ns) (A6 q.ws) (A6 l.next) (Aj hs)) (A0 b0 (A0 hq (A0 (e1.trans t1) (A0 hli (A0 (e2.trans t2) A2)))))
   | false =>
    rw [Bool.not_false, Bool.true_and]
    cases t3 : q.right with
    | false =>
     rw [t3] at hqs
     exact Ac (cr0_3 _ _ _ _ _ _ i q.root q.cur q.v q.m q.load l.head (A9 q.ns) (A6 q.ws) (A6 l.next) (Aj hs)) (A0 b0 (A0 hq (A0 (e1.trans t1) (A0 hli (A0 (e2.trans t2) (A0 hq (A0 hqs A2)))))))
    | true =>
     rw [t3] at hqs
     rw [Bool.true_and]
     cases t4 : (Cm l.head l.next).isSome with
     | false =>
      rw [t4] at hls
      exact Ac (cr0_4 _ _ _ _ _ _ i q.root q.cur q.v q.m q.load l.head (A9 q.ns) (A6 q.ws) (A6 l.next) (Aj hs)) (A0 b0 (A0 hq (A0 (e1.trans t1) (A0 hli (A0 (e2.trans t2) (A0 hq (A0 hqs (A0 hli (A0 hls A2)))))))))
     | true =>
      rw [t4] at hls
      rw [Bool.true_and]
      cases t5 : disH hs 0 with
      | false =>
       rw [t5] at hh
       exact Ac (cr0_5 _ _ _ _ _ _ i q.root q.cur q.v q.m q.load l.head (A9 q.ns) (A6 q.ws) (A6 l.next) (Aj hs)) (A0 b0 (A0 hq (A0 (e1.trans t1) (A0 hli (A0 (e2.trans t2) (A0 hq (A0 hqs (A0 hli (A0 hls (A0 hs2 (A0 hh A2)))))))))))
      | true =>
       rw [t5] at hh
       rw [Bool.true_and]
       exact Aa _ _ _ _ _ _ (cr0_6 _ _ _ _ _ _ i ((i + 1 : Nat) : Int) q.root q.cur q.v q.m q.load l.head (A9 q.ns) (A6 q.ws) (A6 l.next) (Aj hs) _ _) (A0 b0 (A0 hq (A0 (e1.trans t1) (A0 hli (A0 (e2.trans t2) (A0 hq (A0 hqs (A0 hli (A0 hls (A0 hs2 (A0 hh (A0 (Ag (by omega)) (A0 ih A2)))))))))))))
theorem cr_l2 (w : Wld) (ok : w.Ok) (hin : ∀ i, i < w.words.length → SndIn w i) : ∀ (d i : Nat), i + d = w.words.length →
  Ev CCr Ab (.code 33 false (BE Tryz.prog 33 2) (cr2 (An w.words) (Aq w.tasks) (Ak w.queues) (As w.lists) (Ao w.stops) (A6 w.bys) i)) (.code (crZ w 4 (cr2O (An w.words) (Aq w.tasks) (Ak w.queues) (As w.lists) (Ao w.stops) (A6 w.bys)) (sndA w i)).1 (crZ w 4 (cr2O (An w.words) (Aq w.tasks) (Ak w.queues) (As w.lists) (Ao w.stops) (A6 w.bys)) (sndA w i)).2)
 | 0, i, h => by
  have hz : sndA w i = true := by unfold sndA; rw [range_end (by omega)]; rfl
  rw [hz]
  exact Ac (cr2_exit _ _ _ _ _ _ _) (A0 (by rw [Be]; exact dge (by omega)) A2)
 | d + 1, i, h => by
  have hi : i < w.words.length := by omega
  have hnw := ok.nw
  have ih := cr_l2 w ok hin d (i + 1) (by omega)
  have hd : sndA w i = (sndR w i && sndA w (i + 1)) := by
   show ((List.range w.words.length).drop i).all (sndR w) = _
   rw [Cl hi, List.all_cons]
   rfl
  have b0 : decide ((i : Int) < ((An w.words).length : Int)) = true := by rw [Be]; exact dlt hi
  have hsn := snS_at ok (hin i hi)
  rw [hd]
  cases t1 : sndR w i with
  | false =>
   rw [t1] at hsn
   exact Ac (cr2_bad _ _ _ _ _ _ i) (A0 b0 (A0 hsn A2))
  | true =>
   rw [t1] at hsn
   rw [Bool.true_and]
   exact Aa _ _ _ _ _ _ (cr2_step _ _ _ _ _ _ i ((i + 1 : Nat) : Int) _ _) (A0 b0 (A0 hsn (A0 (Ag (by omega)) (A0 ih A2))))
theorem cr_sat : AJ C0 33 wrS := AJ.ctx (C := CCr) rfl rfl (Af (O := Ab) hPCr (fun _ _ h => h.elim) Bm fun ps rs hs => by
 unfold wrS at hs
 split at hs
 ·rename_i cs
  unfold wrV at hs
  split at hs
  ·rename_i w hw
   simp only [Option.some.injEq] at hs
   subst hs
   obtain ⟨rfl, ok⟩ := BY hw
   have ht := tabS_at ok
   have lq := AD w.queues
   have c1 : decide (((Ak w.queues).length : Int) < 1) = decide ((w.queues.length : Int) < 1) := by rw [lq]
   have c2 : decide (((Ak w.queues).length : Int) > 64) = decide ((w.queues.length : Int) > 64) := by rw [lq]
   have c3 : (((As w.lists).length : Int) != ((Ak w.queues).length : Int)) = ((w.lists.length : Int) != (w.queues.length : Int)) := by rw [lq, Cq]
   have c4 : (((Ao w.stops).length : Int) != ((Ak w.queues).length : Int)) = ((w.stops.length : Int) != (w.queues.length : Int)) := by rw [lq, srows_len]
   have c5 : (((A6 w.bys).length : Int) != ((w.queues.length + 1 : Nat) : Int)) = ((w.bys.length : Int) != ((w.queues.length + 1 : Nat) : Int)) := by rw [Ax]
   have wr : IntKind.wrap .i64 (((Ak w.queues).length : Int) + 1) = ((w.queues.length + 1 : Nat) : Int) := by rw [lq]; exact Ag (by have := ok.nq; omega)
   unfold wR
   cases t1 : decide ((w.queues.length : Int) < 1) with
   | true => exact A4 (crw1 _ _ _ _ _ _) (A0 (c1.trans t1) A2)
   | false =>
   rw [Bool.not_false, Bool.true_and]
   cases t2 : decide ((w.queues.length : Int) > 64) with
   | true => exact A4 (crw2 _ _ _ _ _ _) (A0 (c1.trans t1) (A0 (c2.trans t2) A2))
   | false =>
   rw [Bool.not_false, Bool.true_and]
   cases t3 : ((w.lists.length : Int) != (w.queues.length : Int)) with
   | true => exact A4 (crw3 _ _ _ _ _ _) (A0 (c1.trans t1) (A0 (c2.trans t2) (A0 (c3.trans t3) A2)))
   | false =>
   rw [Bool.not_false, Bool.true_and]
   cases t4 : ((w.stops.length : Int) != (w.queues.length : Int)) with
   | true => exact A4 (crw4 _ _ _ _ _ _) (A0 (c1.trans t1) (A0 (c2.trans t2) (A0 (c3.trans t3) (A0 (c4.trans t4) A2))))
   | false =>
   rw [Bool.not_false, Bool.true_and]
   cases t5 : ((w.bys.length : Int) != ((w.queues.length + 1 : Nat) : Int)) with
   | true => exact A4 (crw5 _ _ _ _ _ _ ((w.queues.length + 1 : Nat) : Int)) (A0 (c1.trans t1) (A0 (c2.trans t2) (A0 (c3.trans t3) (A0 (c4.trans t4) (A0 wr (A0 (c5.trans t5) A2))))))
   | false =>
   rw [Bool.not_false, Bool.true_and]
   have g1 : 1 ≤ w.queues.length := by have := of_decide_eq_false t1; omega
   have g2 : w.queues.length ≤ 64 := by have := of_decide_eq_false t2; omega
   have g3 : w.lists.length = w.queues.length := by have := bne_eq_false_iff_eq.1 t3; omega
   have g4 : w.stops.length = w.queues.length := by have := bne_eq_false_iff_eq.1 t4; omega
   have g5 : w.bys.length = w.queues.length + 1 := by have := bne_eq_false_iff_eq.1 t5; omega
   have k0 := cr_l0 w ok g3 g4 w.queues.length 0 (by omega)
   obtain ⟨mn, hmn, hlt⟩ : ∃ mn, miS [.one (.mn 1 (A6 w.bys))] = some [A5 mn] ∧ decide (mn < -1) = !bysA w 0 := by
    have hb := ok.nb
    unfold bysA
    rw [List.drop_zero]
    cases e : w.bys with
    | nil => rw [e] at g5; simp at g5
    | cons a l =>
     refine ⟨minL a l, ?_, ?_⟩
     ·simp only [miS, Br]
      rw [if_pos (by rw [e] at hb; simp at hb; omega)]
     ·rw [minL_lt, List.all_cons]
      rw [List.all_eq_not_any_not]
      cases decide (a < -1) <;> simp only [Bool.not_not, Bool.true_or, Bool.false_or, Bool.not_true, Bool.not_false, Bool.false_and, Bool.true_and]
   cases t6 : bysA w 0 with
   | false =>
    rw [t6] at hlt
    exact A4 (crw6 _ _ _ _ _ _ ((w.queues.length + 1 : Nat) : Int) mn) (A0 (c1.trans t1) (A0 (c2.trans t2) (A0 (c3.trans t3) (A0 (c4.trans t4) (A0 wr (A0 (c5.trans t5) (A0 hmn (A0 hlt A2))))))))
   | true =>
   rw [t6] at hlt
   rw [Bool.true_and]
   cases t7 : tabOK w.words w.tasks with
   | false =>
    rw [t7] at ht
    exact A4 (crw7 _ _ _ _ _ _ ((w.queues.length + 1 : Nat) : Int) mn) (A0 (c1.trans t1) (A0 (c2.trans t2) (A0 (c3.trans t3) (A0 (c4.trans t4) (A0 wr (A0 (c5.trans t5) (A0 hmn (A0 hlt (A0 ht A2)))))))))
   | true =>
   rw [t7] at ht
   rw [Bool.true_and]
   cases t8 : cpuA w 0 with
   | false =>
    rw [t8] at k0
    exact A4 (crw9 _ _ _ _ _ _ ((w.queues.length + 1 : Nat) : Int) mn) (A0 (c1.trans t1) (A0 (c2.trans t2) (A0 (c3.trans t3) (A0 (c4.trans t4) (A0 wr (A0 (c5.trans t5) (A0 hmn (A0 hlt (A0 ht (A0 k0 A2))))))))))
   | true =>
   rw [t8] at k0
   rw [Bool.true_and]
   have hin : ∀ i, i < w.words.length → SndIn w i := fun i hi => snd_in g1 g2 g3 g4 t7 t8 hi
   have k2 := cr_l2 w ok hin w.words.length 0 (by omega)
   cases t9 : sndA w 0 with
   | false =>
    rw [t9] at k2
    exact A4 (crw10 _ _ _ _ _ _ ((w.queues.length + 1 : Nat) : Int) mn) (A0 (c1.trans t1) (A0 (c2.trans t2) (A0 (c3.trans t3) (A0 (c4.trans t4) (A0 wr (A0 (c5.trans t5) (A0 hmn (A0 hlt (A0 ht (A0 k0 (A0 k2 A2)))))))))))
   | true =>
    rw [t9] at k2
    exact A4 (crw11 _ _ _ _ _ _ ((w.queues.length + 1 : Nat) : Int) mn) (A0 (c1.trans t1) (A0 (c2.trans t2) (A0 (c3.trans t3) (A0 (c4.trans t4) (A0 wr (A0 (c5.trans t5) (A0 hmn (A0 hlt (A0 ht (A0 k0 (A0 k2 A2)))))))))))
  ·cases hs
 ·cases hs)
def drZ (w : Wld) (e : Nat) (o : St) (b : Bool) : X × St := if b then (.exit e, o) else (.ret, drR (An w.words) (Aq w.tasks) (Ak w.queues) (As w.lists) (Ao w.stops) (A6 w.bys))
theorem dr_l1 (w : Wld) (ok : w.Ok) (c : Nat) (hs : List Hnd) (hst : w.stops[c]? = some hs) : ∀ (d i : Nat), i + d = hs.length →
  Ev CDr Ab (.code 46 false (BE Tryz.prog 46 2) (dr1 (An w.words) (Aq w.tasks) (Ak w.queues) (As w.lists) (Ao w.stops) (A6 w.bys) c (Aj hs) i)) (.code (drZ w 4 (dr1O (An w.words) (Aq w.tasks) (Ak w.queues) (As w.lists) (Ao w.stops) (A6 w.bys) c) (disH hs i)).1 (drZ w 4 (dr1O (An w.words) (Aq w.tasks) (Ak w.queues) (As w.lists) (Ao w.stops) (A6 w.bys) c) (disH hs i)).2)
 | 0, i, h => by
  have hz : disH hs i = true := by unfold disH; rw [range_end (by omega)]; rfl
  rw [hz]
  exact Ac (dr1_exit _ _ _ _ _ _ _ _ _) (A0 ⟨by omega, BG hst⟩ (A0 (by rw [AW]; exact dge (by omega)) A2))
 | d + 1, i, h => by
  have hi : i < hs.length := by omega
  have hn := ok.ns hs (List.mem_of_getElem? hst)
  have ih := dr_l1 w ok c hs hst d (i + 1) (by omega)
  have hd : disH hs i = (!((hs.take i).contains hs[i]) && disH hs (i + 1)) := by
   show ((List.range hs.length).drop i).all (disO hs) = _
   rw [Cl hi, List.all_cons]
   simp only [disO, List.getElem?_eq_getElem hi]
   rfl
  have b0 : decide ((i : Int) < ((Aj hs).length : Int)) = true := by rw [AW]; exact dlt hi
  have hr : 0 ≤ (i : Int) ∧ (Aj hs)[((i : Int)).toNat]? = some (hD hs[i]) := ⟨by omega, hrows_at (List.getElem?_eq_getElem hi)⟩
  have hst2 : 0 ≤ (c : Int) ∧ (Ao w.stops)[((c : Int)).toNat]? = some [.mn 2 (Aj hs)] := ⟨by omega, BG hst⟩
  have hcut := cut_at hs hi
  have hct := ctS_at (x := hs[i]) (hndM_sl false (hs.take i)) (by rw [List.length_take]; omega)
  rw [hd]
  cases hx : (hs.take i).contains hs[i] with
  | true =>
   rw [hx] at hct
   exact Ac (dr1_hit _ _ _ _ _ _ c i _ _ _ _ _) (A0 hst2 (A0 b0 (A0 hst2 (A0 hcut (A0 hst2 (A0 hr (A0 hct A2)))))))
  | false =>
   rw [hx] at hct
   rw [Bool.not_false, Bool.true_and]
   exact Aa _ _ _ _ _ _ (dr1_step _ _ _ _ _ _ c i _ _ _ _ _ ((i + 1 : Nat) : Int) _ _) (A0 hst2 (A0 b0 (A0 hst2 (A0 hcut (A0 hst2 (A0 hr (A0 hct (A0 (Ag (by omega)) (A0 ih A2)))))))))
theorem dr_l0 (w : Wld) (ok : w.Ok) (hl : w.lists.length = w.queues.length) (hst : w.stops.length = w.queues.length) : ∀ (d i : Nat), i + d = w.queues.length →
  Ev CDr Ab (.code 46 false (BE Tryz.prog 46 1) (dr0 (An w.words) (Aq w.tasks) (Ak w.queues) (As w.lists) (Ao w.stops) (A6 w.bys) i)) (.code (drZ w 2 (dr0O (An w.words) (Aq w.tasks) (Ak w.queues) (As w.lists) (Ao w.stops) (A6 w.bys)) (cpuA w i)).1 (drZ w 2 (dr0O (An w.words) (Aq w.tasks) (Ak w.queues) (As w.lists) (Ao w.stops) (A6 w.bys)) (cpuA w i)).2)
 | 0, i, h => by
  have hz : cpuA w i = true := by unfold cpuA; rw [range_end (by omega)]; rfl
  rw [hz]
  exact Ac (dr0_exit _ _ _ _ _ _ _) (A0 (by rw [AD]; exact dge (by omega)) A2)
 | d + 1, i, h => by
  have hi : i < w.queues.length := by omega
  have hil : i < w.lists.length := by omega
  have his : i < w.stops.length := by omega
  have hnq := ok.nq
  have ih := dr_l0 w ok hl hst d (i + 1) (by omega)
  have hd : cpuA w i = (cpuR w i && cpuA w (i + 1)) := by
   show ((List.range w.queues.length).drop i).all (cpuR w) = _
   rw [Cl hi, List.all_cons]
   rfl
  have hh := dr_l1 w ok i w.stops[i] (List.getElem?_eq_getElem his) (w.stops[i]).length 0 (by omega)
  have hc : cpuR w i = (!(((w.queues[i]).ws.length : Int) != (w.words.length : Int)) && (!(((w.lists[i]).next.length : Int) != (w.words.length : Int)) && ((w.queues[i]).right && ((Cm (w.lists[i]).head (w.lists[i]).next).isSome && disH w.stops[i] 0)))) := by
   simp only [cpuR, List.getElem?_eq_getElem hi, List.getElem?_eq_getElem hil, List.getElem?_eq_getElem his]
  have b0 : decide ((i : Int) < ((Ak w.queues).length : Int)) = true := by rw [AD]; exact dlt hi
  have hq : 0 ≤ (i : Int) ∧ (Ak w.queues)[((i : Int)).toNat]? = some (w.queues[i]).cs := ⟨by omega, BH (List.getElem?_eq_getElem hi)⟩
  have hli : 0 ≤ (i : Int) ∧ (As w.lists)[((i : Int)).toNat]? = some (w.lists[i]).cs := ⟨by omega, lrows_at (List.getElem?_eq_getElem hil)⟩
  have hs2 : 0 ≤ (i : Int) ∧ (Ao w.stops)[((i : Int)).toNat]? = some [.mn 2 (Aj w.stops[i])] := ⟨by omega, BG (List.getElem?_eq_getElem his)⟩
  have hqs := queS_at (ok.queues _ (List.getElem_mem hi))
  have hls := lnkS_at w.lists[i]
  rw [hd, hc]
  generalize w.queues[i] = q at hq hqs ⊢
  generalize w.lists[i] = l at hli hls ⊢
  generalize w.stops[i] = hs at hs2 hh ⊢
  have e1 : (((A6 q.ws).length : Int) != ((An w.words).length : Int)) = ((q.ws.length : Int) != (w.words.length : Int)) := by rw [Ax, Be]
  have e2 : (((A6 l.next).length : Int) != ((An w.words).length : Int)) = ((l.next.length : Int) != (w.words.length : Int)) := by rw [Ax, Be]
  cases t1 : ((q.ws.length : Int) != (w.words.length : Int)) with
  | true => exact Ac (dr0_1 _ _ _ _ _ _ i q.root q.cur q.v q.m q.load l.head (A9 q.ns) (A6 q.ws) (A6 l.next) (Aj hs)) (A0 b0 (A0 hq (A0 (e1.trans t1) A2)))
  | false =>
   rw [Bool.not_false, Bool.true_and]
   cases t2 : ((l.next.length : Int) != (w.words.length : Int)) with
   | true => exact Ac (dr0_2 _ _ _ _ _ _ i q.root q.cur q.v q.m q.load l.head (A9 q.ns) (A6 q.ws) (A6 l.next) (Aj hs)) (A0 b0 (A0 hq (A0 (e1.trans t1) (A0 hli (A0 (e2.trans t2) A2)))))
   | false =>
    rw [Bool.not_false, Bool.true_and]
    cases t3 : q.right with
    | false =>
     rw [t3] at hqs
     exact Ac (dr0_3 _ _ _ _ _ _ i q.root q.cur q.v q.m q.load l.head (A9 q.ns) (A6 q.ws) (A6 l.next) (Aj hs)) (A0 b0 (A0 hq (A0 (e1.trans t1) (A0 hli (A0 (e2.trans t2) (A0 hq (A0 hqs A2)))))))
    | true =>
     rw [t3] at hqs
     rw [Bool.true_and]
     cases t4 : (Cm l.head l.next).isSome with
     | false =>
      rw [t4] at hls
      exact Ac (dr0_4 _ _ _ _ _ _ i q.root q.cur q.v q.m q.load l.head (A9 q.ns) (A6 q.ws) (A6 l.next) (Aj hs)) (A0 b0 (A0 hq (A0 (e1.trans t1) (A0 hli (A0 (e2.trans t2) (A0 hq (A0 hqs (A0 hli (A0 hls A2)))))))))
     | true =>
      rw [t4] at hls
      rw [Bool.true_and]
      cases t5 : disH hs 0 with
      | false =>
       rw [t5] at hh
       exact Ac (dr0_5 _ _ _ _ _ _ i q.root q.cur q.v q.m q.load l.head (A9 q.ns) (A6 q.ws) (A6 l.next) (Aj hs)) (A0 b0 (A0 hq (A0 (e1.trans t1) (A0 hli (A0 (e2.trans t2) (A0 hq (A0 hqs (A0 hli (A0 hls (A0 hh A2))))))))))
      | true =>
       rw [t5] at hh
       rw [Bool.true_and]
       exact Aa _ _ _ _ _ _ (dr0_6 _ _ _ _ _ _ i ((i + 1 : Nat) : Int) q.root q.cur q.v q.m q.load l.head (A9 q.ns) (A6 q.ws) (A6 l.next) (Aj hs) _ _) (A0 b0 (A0 hq (A0 (e1.trans t1) (A0 hli (A0 (e2.trans t2) (A0 hq (A0 hqs (A0 hli (A0 hls (A0 hh (A0 (Ag (by omega)) (A0 ih A2))))))))))))
theorem dr_l2 (w : Wld) (ok : w.Ok) (hin : ∀ i, i < w.words.length → SndIn w i) : ∀ (d i : Nat), i + d = w.words.length →
  Ev CDr Ab (.code 46 false (BE Tryz.prog 46 3) (dr2 (An w.words) (Aq w.tasks) (Ak w.queues) (As w.lists) (Ao w.stops) (A6 w.bys) i)) (.code (drZ w 6 (dr2O (An w.words) (Aq w.tasks) (Ak w.queues) (As w.lists) (Ao w.stops) (A6 w.bys)) (sndA w i)).1 (drZ w 6 (dr2O (An w.words) (Aq w.tasks) (Ak w.queues) (As w.lists) (Ao w.stops) (A6 w.bys)) (sndA w i)).2)
 | 0, i, h => by
  have hz : sndA w i = true := by unfold sndA; rw [range_end (by omega)]; rfl
  rw [hz]
  exact Ac (dr2_exit _ _ _ _ _ _ _) (A0 (by rw [Be]; exact dge (by omega)) A2)
 | d + 1, i, h => by
  have hi : i < w.words.length := by omega
  have hnw := ok.nw
  have ih := dr_l2 w ok hin d (i + 1) (by omega)
  have hd : sndA w i = (sndR w i && sndA w (i + 1)) := by
   show ((List.range w.words.length).drop i).all (sndR w) = _
   rw [Cl hi, List.all_cons]
   rfl
  have b0 : decide ((i : Int) < ((An w.words).length : Int)) = true := by rw [Be]; exact dlt hi
  have hsn := snS_at ok (hin i hi)
  rw [hd]
  cases t1 : sndR w i with
  | false =>
   rw [t1] at hsn
   exact Ac (dr2_bad _ _ _ _ _ _ i) (A0 b0 (A0 hsn A2))
  | true =>
   rw [t1] at hsn
   rw [Bool.true_and]
   exact Aa _ _ _ _ _ _ (dr2_step _ _ _ _ _ _ i ((i + 1 : Nat) : Int) _ _) (A0 b0 (A0 hsn (A0 (Ag (by omega)) (A0 ih A2))))
theorem dr_lb (w : Wld) (ok : w.Ok) (hb : w.bys.length = w.queues.length + 1) : ∀ (d i : Nat), i + d = w.bys.length →
  Ev CDr Ab (.code 46 false (BE Tryz.prog 46 0) (drb (An w.words) (Aq w.tasks) (Ak w.queues) (As w.lists) (Ao w.stops) (A6 w.bys) i)) (.code (drZ w 0 (drbO (An w.words) (Aq w.tasks) (Ak w.queues) (As w.lists) (Ao w.stops) (A6 w.bys)) (bysA w i)).1 (drZ w 0 (drbO (An w.words) (Aq w.tasks) (Ak w.queues) (As w.lists) (Ao w.stops) (A6 w.bys)) (bysA w i)).2)
 | 0, i, h => by
  have hz : bysA w i = true := by unfold bysA; rw [List.drop_eq_nil_of_le (by omega)]; rfl
  rw [hz]
  exact Ac (drb_exit _ _ _ _ _ _ _) (A0 (decide_eq_false (by rw [AD]; omega)) A2)
 | d + 1, i, h => by
  have hi : i < w.bys.length := by omega
  have hnw := ok.nb
  have ih := dr_lb w ok hb d (i + 1) (by omega)
  have hd : bysA w i = (!decide (w.bys[i] < -1) && bysA w (i + 1)) := by
   show (w.bys.drop i).all _ = _
   rw [List.drop_eq_getElem_cons hi, List.all_cons]
   rfl
  have b0 : decide ((i : Int) ≤ ((Ak w.queues).length : Int)) = true := decide_eq_true (by rw [AD]; omega)
  have hr : 0 ≤ (i : Int) ∧ (A6 w.bys)[((i : Int)).toNat]? = some [di w.bys[i]] := ⟨by omega, B2 (List.getElem?_eq_getElem hi)⟩
  rw [hd]
  generalize w.bys[i] = y at hr ⊢
  cases t1 : decide (y < -1) with
  | true => exact Ac (drb_bad _ _ _ _ _ _ i y) (A0 b0 (A0 hr (A0 t1 A2)))
  | false =>
   rw [Bool.not_false, Bool.true_and]
   exact Aa _ _ _ _ _ _ (drb_step _ _ _ _ _ _ i ((i + 1 : Nat) : Int) y _ _) (A0 b0 (A0 hr (A0 t1 (A0 (Ag (by omega)) (A0 ih A2)))))
theorem dr_sat : AJ C0 46 wrS := AJ.ctx (C := CDr) rfl rfl (Af (O := Ab) hPDr (fun _ _ h => h.elim) Bm fun ps rs hs => by
 unfold wrS at hs
 split at hs
 ·rename_i cs
  unfold wrV at hs
  split at hs
  ·rename_i w hw
   simp only [Option.some.injEq] at hs
   subst hs
   obtain ⟨rfl, ok⟩ := BY hw
   have ht := tabS_at ok
   have lq := AD w.queues
   have c1 : decide (((Ak w.queues).length : Int) < 1) = decide ((w.queues.length : Int) < 1) := by rw [lq]
   have c2 : decide (((Ak w.queues).length : Int) > 64) = decide ((w.queues.length : Int) > 64) := by rw [lq]
   have c3 : (((As w.lists).length : Int) != ((Ak w.queues).length : Int)) = ((w.lists.length : Int) != (w.queues.length : Int)) := by rw [lq, Cq]
   have c4 : (((Ao w.stops).length : Int) != ((Ak w.queues).length : Int)) = ((w.stops.length : Int) != (w.queues.length : Int)) := by rw [lq, srows_len]
   have c5 : (((A6 w.bys).length : Int) != ((w.queues.length + 1 : Nat) : Int)) = ((w.bys.length : Int) != ((w.queues.length + 1 : Nat) : Int)) := by rw [Ax]
   have wr : IntKind.wrap .i64 (((Ak w.queues).length : Int) + 1) = ((w.queues.length + 1 : Nat) : Int) := by rw [lq]; exact Ag (by have := ok.nq; omega)
   unfold wR
   cases t1 : decide ((w.queues.length : Int) < 1) with
   | true => exact A4 (drw1 _ _ _ _ _ _) (A0 (c1.trans t1) A2)
   | false =>
   rw [Bool.not_false, Bool.true_and]
   cases t2 : decide ((w.queues.length : Int) > 64) with
   | true => exact A4 (drw2 _ _ _ _ _ _) (A0 (c1.trans t1) (A0 (c2.trans t2) A2))
   | false =>
   rw [Bool.not_false, Bool.true_and]
   cases t3 : ((w.lists.length : Int) != (w.queues.length : Int)) with
   | true => exact A4 (drw3 _ _ _ _ _ _) (A0 (c1.trans t1) (A0 (c2.trans t2) (A0 (c3.trans t3) A2)))
   | false =>
   rw [Bool.not_false, Bool.true_and]
   cases t4 : ((w.stops.length : Int) != (w.queues.length : Int)) with
   | true => exact A4 (drw4 _ _ _ _ _ _) (A0 (c1.trans t1) (A0 (c2.trans t2) (A0 (c3.trans t3) (A0 (c4.trans t4) A2))))
   | false =>
   rw [Bool.not_false, Bool.true_and]
   cases t5 : ((w.bys.length : Int) != ((w.queues.length + 1 : Nat) : Int)) with
   | true => exact A4 (drw5 _ _ _ _ _ _ ((w.queues.length + 1 : Nat) : Int)) (A0 (c1.trans t1) (A0 (c2.trans t2) (A0 (c3.trans t3) (A0 (c4.trans t4) (A0 wr (A0 (c5.trans t5) A2))))))
   | false =>
   rw [Bool.not_false, Bool.true_and]
   have g1 : 1 ≤ w.queues.length := by have := of_decide_eq_false t1; omega
   have g2 : w.queues.length ≤ 64 := by have := of_decide_eq_false t2; omega
   have g3 : w.lists.length = w.queues.length := by have := bne_eq_false_iff_eq.1 t3; omega
   have g4 : w.stops.length = w.queues.length := by have := bne_eq_false_iff_eq.1 t4; omega
   have g5 : w.bys.length = w.queues.length + 1 := by have := bne_eq_false_iff_eq.1 t5; omega
   have k0 := dr_l0 w ok g3 g4 w.queues.length 0 (by omega)
   have kb := dr_lb w ok g5 w.bys.length 0 (by omega)
   cases t7 : tabOK w.words w.tasks with
   | false =>
    rw [t7] at ht
    rw [Bool.false_and, Bool.and_false]
    exact A4 (drw7 _ _ _ _ _ _ ((w.queues.length + 1 : Nat) : Int)) (A0 (c1.trans t1) (A0 (c2.trans t2) (A0 (c3.trans t3) (A0 (c4.trans t4) (A0 wr (A0 (c5.trans t5) (A0 ht A2)))))))
   | true =>
   rw [t7] at ht
   rw [Bool.true_and]
   cases t6 : bysA w 0 with
   | false =>
    rw [t6] at kb
    exact A4 (drw8 _ _ _ _ _ _ ((w.queues.length + 1 : Nat) : Int)) (A0 (c1.trans t1) (A0 (c2.trans t2) (A0 (c3.trans t3) (A0 (c4.trans t4) (A0 wr (A0 (c5.trans t5) (A0 ht (A0 kb A2))))))))
   | true =>
   rw [t6] at kb
   rw [Bool.true_and]
   cases t8 : cpuA w 0 with
   | false =>
    rw [t8] at k0
    exact A4 (drw9 _ _ _ _ _ _ ((w.queues.length + 1 : Nat) : Int)) (A0 (c1.trans t1) (A0 (c2.trans t2) (A0 (c3.trans t3) (A0 (c4.trans t4) (A0 wr (A0 (c5.trans t5) (A0 ht (A0 kb (A0 k0 A2)))))))))
   | true =>
   rw [t8] at k0
   rw [Bool.true_and]
   have hin : ∀ i, i < w.words.length → SndIn w i := fun i hi => snd_in g1 g2 g3 g4 t7 t8 hi
   have k2 := dr_l2 w ok hin w.words.length 0 (by omega)
   cases t9 : sndA w 0 with
   | false =>
    rw [t9] at k2
    exact A4 (drw10 _ _ _ _ _ _ ((w.queues.length + 1 : Nat) : Int)) (A0 (c1.trans t1) (A0 (c2.trans t2) (A0 (c3.trans t3) (A0 (c4.trans t4) (A0 wr (A0 (c5.trans t5) (A0 ht (A0 kb (A0 k0 (A0 k2 A2))))))))))
   | true =>
    rw [t9] at k2
    exact A4 (drw11 _ _ _ _ _ _ ((w.queues.length + 1 : Nat) : Int)) (A0 (c1.trans t1) (A0 (c2.trans t2) (A0 (c3.trans t3) (A0 (c4.trans t4) (A0 wr (A0 (c5.trans t5) (A0 ht (A0 kb (A0 k0 (A0 k2 A2))))))))))
  ·cases hs
 ·cases hs)
def plC (wd tk qr lr sr bw : A8) (i k c : Int) (b : Bool) (s g : Int) : List DV := [.mn 1 wd, .mn 3 tk, .mn 7 qr, .mn 2 lr, .mn 1 sr, .mn 1 bw, di i, di k, di c, db b, di s, di g]
def itC (k c g n m v l : Int) : List DV := [di k, di c, di g, di n, du m, du v, di l]
structure Pla where
 wd : A8
 tk : A8
 qr : A8
 lr : A8
 sr : A8
 bw : A8
 i : Int
 k : Int
 c : Int
 b : Bool
 s : Int
 g : Int
def Pla.cs (p : Pla) : List DV := plC p.wd p.tk p.qr p.lr p.sr p.bw p.i p.k p.c p.b p.s p.g
def plP : List DV → Option Pla
 | [.mn 1 wd, .mn 3 tk, .mn 7 qr, .mn 2 lr, .mn 1 sr, .mn 1 bw, .v (.int .i64 i), .v (.int .i64 k), .v (.int .i64 c), .v (.bool b), .v (.int .i64 s), .v (.int .i64 g)] => some ⟨wd, tk, qr, lr, sr, bw, i, k, c, b, s, g⟩
 | _ => none
theorem plP_eq {cs : List DV} {p : Pla} (h : plP cs = some p) : cs = p.cs := by
 unfold plP at h
 split at h
 ·simp only [Option.some.injEq] at h; subst h; rfl
 ·cases h
theorem plP_cs (p : Pla) : plP p.cs = some p := rfl
structure Itm where
 k : Int
 c : Int
 g : Int
 n : Int
 m : Int
 v : Int
 l : Int
def Itm.cs (x : Itm) : List DV := itC x.k x.c x.g x.n x.m x.v x.l
def itP : List DV → Option Itm
 | [.v (.int .i64 k), .v (.int .i64 c), .v (.int .i64 g), .v (.int .i64 n), .v (.int .u64 m), .v (.int .u64 v), .v (.int .i64 l)] => some ⟨k, c, g, n, m, v, l⟩
 | _ => none
theorem itP_eq {cs : List DV} {x : Itm} (h : itP cs = some x) : cs = x.cs := by
 unfold itP at h
 split at h
 ·simp only [Option.some.injEq] at h; subst h; rfl
 ·cases h
theorem itP_cs (x : Itm) : itP x.cs = some x := rfl
structure Qr where
 root : Int
 ns : A8
 cur : Int
 v : Int
 m : Int
 load : Int
 wl : A8
def Qr.cs (q : Qr) : List DV := Bs q.root q.cur q.v q.m q.load q.ns q.wl
def qrP : List DV → Option Qr
 | [.v (.int .i64 root), .mn 6 ns, .v (.int .i64 cur), .v (.int .u64 v), .v (.int .u64 m), .v (.int .i64 load), .mn 1 wl] => some ⟨root, ns, cur, v, m, load, wl⟩
 | _ => none
theorem qrP_eq {cs : List DV} {q : Qr} (h : qrP cs = some q) : cs = q.cs := by
 unfold qrP at h
 split at h
 ·simp only [Option.some.injEq] at h; subst h; rfl
 ·cases h
def rdAt {α : Type} (f : List DV → Option α) (rows : A8) (i : Int) : Option α := if 0 ≤ i then match rows[i.toNat]? with
 | some r => f r
 | none => none
 else none
theorem rdAt_eq {α : Type} {f : List DV → Option α} {rows : A8} {i : Int} {a : α} (h : rdAt f rows i = some a) : ∃ r, f r = some a ∧ 0 ≤ i ∧ rows[i.toNat]? = some r := by
 unfold rdAt at h
 split at h
 ·rename_i hi
  split at h
  ·rename_i r hr
   exact ⟨r, h, hi, hr⟩
  ·cases h
 ·cases h
theorem rdAt_of {α : Type} {f : List DV → Option α} {rows : A8} {i : Nat} {r : List DV} (h : rows[i]? = some r) : rdAt f rows i = f r := by
 unfold rdAt
 rw [if_pos (by omega), Int.toNat_natCast, h]
def ndP : List DV → Option Int
 | [.v (.bool _), .v (.bool _), .v (.int .u64 y), .v (.int .i64 _), .v (.int .i64 _), .v (.int .i64 _)] => some y
 | _ => none
theorem ndP_eq {cs : List DV} {y : Int} (h : ndP cs = some y) : ∃ a b l r u, cs = [db a, db b, du y, di l, di r, di u] := by
 unfold ndP at h
 split at h
 ·simp only [Option.some.injEq] at h; subst h; exact ⟨_, _, _, _, _, rfl⟩
 ·cases h
def lagOf (p : Pla) : Option Int := match rdAt tskR p.tk p.i with
 | some t => some t.lag
 | none => none
theorem lagOf_eq {p : Pla} {l : Int} (h : lagOf p = some l) : ∃ n m, 0 ≤ p.i ∧ p.tk[p.i.toNat]? = some [di n, du m, di l] := by
 unfold lagOf at h
 split at h
 ·rename_i t ht
  obtain ⟨r, h1, h2, h3⟩ := rdAt_eq ht
  simp only [Option.some.injEq] at h; subst h
  obtain rfl := tskR_eq h1
  exact ⟨t.nice, t.mask, h2, h3⟩
 ·cases h
def quOf (p : Pla) : Option Qr := rdAt qrP p.qr p.c
theorem quOf_eq {p : Pla} {q : Qr} (h : quOf p = some q) : 0 ≤ p.c ∧ p.qr[p.c.toNat]? = some q.cs := by
 obtain ⟨r, h1, h2, h3⟩ := rdAt_eq h
 obtain rfl := qrP_eq h1
 exact ⟨h2, h3⟩
def lgV : Option Pla → Option (List PV)
 | some p => match lagOf p with
  | some l => some [A5 l]
  | none => none
 | none => none
def lgS : Spec
 | [.agg cs] => lgV (plP cs)
 | _ => none
def quV : Option Pla → Option (List PV)
 | some p => match quOf p with
  | some q => some [.agg q.cs]
  | none => none
 | none => none
def quS : Spec
 | [.agg cs] => quV (plP cs)
 | _ => none
theorem lgS_at {p : Pla} {l : Int} (h : lagOf p = some l) : lgS [.agg p.cs] = some [A5 l] := by
 show lgV (plP p.cs) = _
 rw [plP_cs, lgV, h]
theorem quS_at {p : Pla} {q : Qr} (h : quOf p = some q) : quS [.agg p.cs] = some [.agg q.cs] := by
 show quV (plP p.cs) = _
 rw [plP_cs, quV, h]
def itV (f : Pla → Itm → Option Itm) : Option Pla → Option Itm → Option (List PV)
 | some p, some x => match f p x with
  | some y => some [.agg y.cs]
  | none => none
 | _, _ => none
def itS (f : Pla → Itm → Option Itm) : Spec
 | [.agg cs, .agg ds] => itV f (plP cs) (itP ds)
 | _ => none
theorem itS_at {f : Pla → Itm → Option Itm} {p : Pla} {x y : Itm} (h : f p x = some y) : itS f [.agg p.cs, .agg x.cs] = some [.agg y.cs] := by
 show itV f (plP p.cs) (itP x.cs) = _
 rw [plP_cs, itP_cs, itV, h]
theorem it_open {f : Pla → Itm → Option Itm} {ps rs : List PV} (h : itS f ps = some rs) : ∃ p x y, ps = [.agg p.cs, .agg x.cs] ∧ f p x = some y ∧ rs = [.agg y.cs] := by
 unfold itS at h
 split at h
 ·rename_i cs ds
  unfold itV at h
  split at h
  ·rename_i p x h1 h2
   split at h
   ·rename_i y hy
    simp only [Option.some.injEq] at h
    exact ⟨p, x, y, by rw [plP_eq h1, itP_eq h2], hy, h.symm⟩
   ·cases h
  ·cases h
 ·cases h
def mxL (l : Int) : Int := if -1048576 > l then -1048576 else l
def it0 (p : Pla) (x : Itm) : Option Itm := some ⟨0, 0, x.g, 0, 0, 0, 0⟩
def itK (k : Int) (p : Pla) (x : Itm) : Option Itm := match lagOf p with
 | some l => some ⟨k, x.c, x.g, x.n, x.m, x.v, l⟩
 | none => none
def it4 (p : Pla) (x : Itm) : Option Itm := match quOf p with
 | some q => match rdAt ndP q.ns p.i with
  | some v => some ⟨4, x.c, x.g, x.n, x.m, v, x.l⟩
  | none => none
 | none => none
def it5 (p : Pla) (x : Itm) : Option Itm := match quOf p with
 | some q => some ⟨5, x.c, x.g, x.n, x.m, q.v, x.l⟩
 | none => none
def atR (a l : Int) : Int := IntKind.wrap .u64 (a + IntKind.wrap .u64 l)
def it6 (p : Pla) (x : Itm) : Option Itm := match quOf p, lagOf p with
 | some q, some l => some ⟨4, x.c, x.g, x.n, x.m, atR q.m (mxL l), x.l⟩
 | _, _ => none
def lsAny (ls : List Lst) (i : Nat) : Bool := ls.any fun l => (l.next[i]?).getD 0 != -2
def lsOf (lr : A8) (i : Int) : Option Bool := match Ae lstR lr with
 | some ls => if 0 ≤ i ∧ ls.length < 2 ^ 30 ∧ ls.all (fun l => decide (i.toNat < l.next.length)) = true then some (lsAny ls i.toNat) else none
 | none => none
def liV : Option Pla → Option (List PV)
 | some p => match lsOf p.lr p.i with
  | some z => some [A3 z]
  | none => none
 | none => none
def liS : Spec
 | [.agg cs] => liV (plP cs)
 | _ => none
def lrOf : List DV → Option (A8)
 | [.mn 1 _, .mn 3 _, .mn 7 _, .mn 2 lr, .mn 1 _, .mn 1 _] => some lr
 | _ => none
def ldV (i : Int) : Option (A8) → Option (List PV)
 | some lr => match lsOf lr i with
  | some z => some [A3 z]
  | none => none
 | none => none
def ldS : Spec
 | [.agg cs, .one (.v (.int .i64 i))] => ldV i (lrOf cs)
 | _ => none
def meT (p : Pla) : Option Nat := if p.k = 0 then some 120 else if p.k = 4 then some 162 else if p.k = 5 then some 163 else if p.k = 6 then some 164 else if p.k = 3 then some 165 else if p.b = true then some 165 else if p.k = 2 then
 (match lsOf p.lr p.i with
 | some z => some (if z then 165 else 166)
 | none => none)
 else some 166
def meV : Option Pla → Option (List PV)
 | some p => match meT p with
  | some t => some [.ifc t p.cs]
  | none => none
 | none => none
def meS : Spec
 | [.agg cs] => meV (plP cs)
 | _ => none
theorem lg_1 (p : Pla) (n m l : Int) : Cs C0 Ab 60 257 [.agg p.cs] [(A1 257 9, .row [di n, du m, di l])] = some ([A5 l], [], [0 ≤ p.i ∧ p.tk[p.i.toNat]? = some [di n, du m, di l]]) := by kernel_rfl
theorem qu_1 (p : Pla) (q : Qr) : Cs C0 Ab 60 260 [.agg p.cs] [(A1 260 9, .row q.cs)] = some ([.agg q.cs], [], [0 ≤ p.c ∧ p.qr[p.c.toNat]? = some q.cs]) := by kernel_rfl
theorem lg_sat : AJ C0 257 lgS := Af (O := Ab) BN (fun _ _ h => h.elim) Bm fun ps rs hs => by
 unfold lgS at hs
 split at hs
 ·unfold lgV at hs
  split at hs
  ·rename_i p hp
   obtain rfl := plP_eq hp
   split at hs
   ·rename_i l hl
    simp only [Option.some.injEq] at hs; subst hs
    obtain ⟨n, m, h⟩ := lagOf_eq hl
    exact A4 (lg_1 p n m l) (A0 h A2)
   ·cases hs
  ·cases hs
 ·cases hs
theorem qu_sat : AJ C0 260 quS := Af (O := Ab) BN (fun _ _ h => h.elim) Bm fun ps rs hs => by
 unfold quS at hs
 split at hs
 ·unfold quV at hs
  split at hs
  ·rename_i p hp
   obtain rfl := plP_eq hp
   split at hs
   ·rename_i q hq
    simp only [Option.some.injEq] at hs; subst hs
    exact A4 (qu_1 p q) (A0 (quOf_eq hq) A2)
   ·cases hs
  ·cases hs
 ·cases hs
noncomputable def CIt : Ctx := Ad (Ad C0 257 lgS) 260 quS
theorem hPIt : Aw CIt := A7 (A7 BN (lg_sat.ctx rfl rfl) (by kernel_rfl)) (qu_sat.ctx rfl rfl) (by kernel_rfl)
theorem i0_1 (p : Pla) (x : Itm) : Cs CIt Ab 60 258 [.agg p.cs, .agg x.cs] [] = some ([.agg (itC 0 0 x.g 0 0 0 0)], [], []) := by kernel_rfl
theorem i3_1 (p : Pla) (x : Itm) (l : Int) : Cs CIt Ab 60 264 [.agg p.cs, .agg x.cs] [(A1 264 7, .prim [A5 l])] = some ([.agg (itC 3 x.c x.g x.n x.m x.v l)], [], [lgS [.agg p.cs] = some [A5 l]]) := by kernel_rfl
theorem i1_1 (p : Pla) (x : Itm) (l : Int) : Cs CIt Ab 60 265 [.agg p.cs, .agg x.cs] [(A1 265 7, .prim [A5 l])] = some ([.agg (itC 1 x.c x.g x.n x.m x.v l)], [], [lgS [.agg p.cs] = some [A5 l]]) := by kernel_rfl
theorem i4_1 (p : Pla) (x : Itm) (q : Qr) (a b : Bool) (y l r u : Int) : Cs CIt Ab 60 259 [.agg p.cs, .agg x.cs] [(A1 259 7, .prim [.agg q.cs]), (A1 259 13, .row [db a, db b, du y, di l, di r, di u])] = some ([.agg (itC 4 x.c x.g x.n x.m y x.l)], [], [quS [.agg p.cs] = some [.agg q.cs], 0 ≤ p.i ∧ q.ns[p.i.toNat]? = some [db a, db b, du y, di l, di r, di u]]) := by kernel_rfl
theorem i5_1 (p : Pla) (x : Itm) (q : Qr) : Cs CIt Ab 60 261 [.agg p.cs, .agg x.cs] [(A1 261 7, .prim [.agg q.cs])] = some ([.agg (itC 5 x.c x.g x.n x.m q.v x.l)], [], [quS [.agg p.cs] = some [.agg q.cs]]) := by kernel_rfl
theorem i6_1 (p : Pla) (x : Itm) (q : Qr) (l : Int) : Cs CIt Ab 60 262 [.agg p.cs, .agg x.cs] [(A1 262 7, .prim [.agg q.cs]), (A1 262 11, .prim [A5 l]), (A1 262 12, .int (mxL l))] = some ([.agg (itC 4 x.c x.g x.n x.m (atR q.m (mxL l)) x.l)], [], [quS [.agg p.cs] = some [.agg q.cs], lgS [.agg p.cs] = some [A5 l], (if -1048576 > l then -1048576 else l) = mxL l]) := by kernel_rfl
theorem i0_sat : AJ C0 258 (itS it0) := AJ.ctx (C := CIt) rfl rfl (Af (O := Ab) hPIt (fun _ _ h => h.elim) Bm fun ps rs hs => by
 obtain ⟨p, x, y, rfl, h, rfl⟩ := it_open hs
 simp only [it0, Option.some.injEq] at h; subst h
 exact A4 (i0_1 p x) A2)
theorem i5_sat : AJ C0 261 (itS it5) := AJ.ctx (C := CIt) rfl rfl (Af (O := Ab) hPIt (fun _ _ h => h.elim) Bm fun ps rs hs => by
 obtain ⟨p, x, y, rfl, h, rfl⟩ := it_open hs
 unfold it5 at h
 split at h
 ·rename_i q hq
  simp only [Option.some.injEq] at h; subst h
  exact A4 (i5_1 p x q) (A0 (quS_at hq) A2)
 ·cases h)
theorem i6_sat : AJ C0 262 (itS it6) := AJ.ctx (C := CIt) rfl rfl (Af (O := Ab) hPIt (fun _ _ h => h.elim) Bm fun ps rs hs => by
 obtain ⟨p, x, y, rfl, h, rfl⟩ := it_open hs
 unfold it6 at h
 split at h
 ·rename_i q l hq hl
  simp only [Option.some.injEq] at h; subst h
  exact A4 (i6_1 p x q l) (A0 (quS_at hq) (A0 (lgS_at hl) (A0 rfl A2)))
 ·cases h)
theorem i4_sat : AJ C0 259 (itS it4) := AJ.ctx (C := CIt) rfl rfl (Af (O := Ab) hPIt (fun _ _ h => h.elim) Bm fun ps rs hs => by
 obtain ⟨p, x, y, rfl, h, rfl⟩ := it_open hs
 unfold it4 at h
 split at h
 ·rename_i q hq
  split at h
  ·rename_i v hv
   simp only [Option.some.injEq] at h; subst h
   obtain ⟨r, h1, h2, h3⟩ := rdAt_eq hv
   obtain ⟨a, b, l, r, u, rfl⟩ := ndP_eq h1
   exact A4 (i4_1 p x q a b v l r u) (A0 (quS_at hq) (A0 ⟨h2, h3⟩ A2))
  ·cases h
 ·cases h)
theorem i3_sat : AJ C0 264 (itS (itK 3)) := AJ.ctx (C := CIt) rfl rfl (Af (O := Ab) hPIt (fun _ _ h => h.elim) Bm fun ps rs hs => by
 obtain ⟨p, x, y, rfl, h, rfl⟩ := it_open hs
 unfold itK at h
 split at h
 ·rename_i l hl
  simp only [Option.some.injEq] at h; subst h
  exact A4 (i3_1 p x l) (A0 (lgS_at hl) A2)
 ·cases h)
theorem i1_sat : AJ C0 265 (itS (itK 1)) := AJ.ctx (C := CIt) rfl rfl (Af (O := Ab) hPIt (fun _ _ h => h.elim) Bm fun ps rs hs => by
 obtain ⟨p, x, y, rfl, h, rfl⟩ := it_open hs
 unfold itK at h
 split at h
 ·rename_i l hl
  simp only [Option.some.injEq] at h; subst h
  exact A4 (i1_1 p x l) (A0 (lgS_at hl) A2)
 ·cases h)
def lsH (p : Pla) : H := { objs := [(A1 79 1, 1, [.cells (p.cs.map .d) false])] }
def lsHd (p : Pla) (j : Int) : St := { σ := Ap 19 [(0, .d (.mn 2 p.lr)), (1, .fn (.fn (.func 149)) [] [.ptr (A1 79 1) 0 0]), (7, vi p.lr.length), (8, vi j)], h := lsH p }
def lsOut (p : Pla) : St := { σ := Ap 19 [], h := lsH p }
def lsHit (p : Pla) (j : Int) : St := { σ := Ap 19 [(4, vi j)], h := lsH p }
def lnC (hd : Int) (nx : A8) : List DV := [di hd, .mn 1 nx]
theorem ls_exit (p : Pla) (j : Int) : symM C0 Ab 60 193 false (BE Tryz.prog 193 0) (lsHd p j) [(A1 193 9, .b false)] [] = some ((.exit 0, lsOut p), [], [decide (j < (p.lr.length : Int)) = false]) := by kernel_rfl
theorem ls_hit (p : Pla) (j hd y : Int) (nx : A8) : symD C0 Ab 60 193 false (BE Tryz.prog 193 0) (lsHd p j) [(A1 193 9, .b true), (A1 193 14, .row (lnC hd nx)), (A1 149 8, .row [di y]), (A1 149 10, .b true)] [4] [A1 149 2] = some ((.ret, lsHit p j), [], [decide (j < (p.lr.length : Int)) = true, 0 ≤ j ∧ p.lr[j.toNat]? = some (lnC hd nx), 0 ≤ p.i ∧ nx[p.i.toNat]? = some [di y], (y != -2) = true] ++ td3) := by kernel_rfl
theorem ls_step (p : Pla) (j j' hd y : Int) (nx : A8) (X : X) (st : St) : AY C0 Ab 60 (.code 193 false (BE Tryz.prog 193 0) (lsHd p j)) [(A1 193 9, .b true), (A1 193 14, .row (lnC hd nx)), (A1 149 8, .row [di y]), (A1 149 10, .b false), (A1 193 18, .int j'), (A1 193 8002, .drop [A1 149 2] [0, 1, 7, 8]), (A1 193 8001, .loop [0, 1, 7, 8] X st)] =
  some (.code X st, [], [decide (j < (p.lr.length : Int)) = true, 0 ≤ j ∧ p.lr[j.toNat]? = some (lnC hd nx), 0 ≤ p.i ∧ nx[p.i.toNat]? = some [di y], (y != -2) = false, IntKind.wrap .i64 (j + 1) = j', true = true, true = true, true = true, Ev C0 Ab (.code 193 false (BE Tryz.prog 193 0) (lsHd p j')) (.code X st)]) := by kernel_rfl
theorem ls_f (p : Pla) : Cs C0 Ab 60 79 [.agg p.cs] [(A1 193 8001, .loop [0, 1, 7, 8] (.exit 0) (lsOut p))] = some ([A3 false], [], [Ev C0 Ab (.code 193 false (BE Tryz.prog 193 0) (lsHd p 0)) (.code (.exit 0) (lsOut p))]) := by kernel_rfl
theorem ls_t (p : Pla) (j : Int) : Cs C0 Ab 60 79 [.agg p.cs] [(A1 193 8001, .loop [0, 1, 7, 8] .ret (lsHit p j)), (A1 148 8, .b true)] = some ([A3 true], [], [Ev C0 Ab (.code 193 false (BE Tryz.prog 193 0) (lsHd p 0)) (.code .ret (lsHit p j)), decide (j ≥ 0) = true]) := by kernel_rfl
def ldH (wd tk qr lr sr bw : A8) : H := { objs := [(A1 114 2, 1, [.cells ((AM wd tk qr lr sr bw).map .d) false])] }
def ldHd (wd tk qr lr sr bw : A8) (i j : Int) : St := { σ := Ap 23 [(1, vi i), (2, .ptr (A1 114 2) 0 0), (5, vi j)], h := ldH wd tk qr lr sr bw }
def ldOut (wd tk qr lr sr bw : A8) : St := { σ := Ap 23 [], h := ldH wd tk qr lr sr bw }
def ldHit (wd tk qr lr sr bw : A8) : St := { σ := Ap 23 [(4, vb true)], h := ldH wd tk qr lr sr bw }
theorem ld_exit (wd tk qr lr sr bw : A8) (i j : Int) : symM C0 Ab 60 114 false (BE Tryz.prog 114 0) (ldHd wd tk qr lr sr bw i j) [(A1 114 10, .b false)] [] = some ((.exit 0, ldOut wd tk qr lr sr bw), [], [decide (j < (lr.length : Int)) = false]) := by kernel_rfl
theorem ld_hit (wd tk qr lr sr bw : A8) (i j hd y : Int) (nx : A8) : symM C0 Ab 60 114 false (BE Tryz.prog 114 0) (ldHd wd tk qr lr sr bw i j) [(A1 114 10, .b true), (A1 114 16, .row (lnC hd nx)), (A1 114 20, .row [di y]), (A1 114 22, .b true)] [4] = some ((.ret, ldHit wd tk qr lr sr bw), [], [decide (j < (lr.length : Int)) = true, 0 ≤ j ∧ lr[j.toNat]? = some (lnC hd nx), 0 ≤ i ∧ nx[i.toNat]? = some [di y], (y != -2) = true]) := by kernel_rfl
theorem ld_step (wd tk qr lr sr bw : A8) (i j j' hd y : Int) (nx : A8) (X : X) (st : St) : AY C0 Ab 60 (.code 114 false (BE Tryz.prog 114 0) (ldHd wd tk qr lr sr bw i j)) [(A1 114 10, .b true), (A1 114 16, .row (lnC hd nx)), (A1 114 20, .row [di y]), (A1 114 22, .b false), (A1 114 12, .int j'), (A1 114 8001, .loop [1, 2, 5] X st)] =
  some (.code X st, [], [decide (j < (lr.length : Int)) = true, 0 ≤ j ∧ lr[j.toNat]? = some (lnC hd nx), 0 ≤ i ∧ nx[i.toNat]? = some [di y], (y != -2) = false, IntKind.wrap .i64 (j + 1) = j', Ev C0 Ab (.code 114 false (BE Tryz.prog 114 0) (ldHd wd tk qr lr sr bw i j')) (.code X st)]) := by kernel_rfl
theorem ld_f (wd tk qr lr sr bw : A8) (i : Int) : Cs C0 Ab 60 114 [.agg (AM wd tk qr lr sr bw), A5 i] [(A1 114 8001, .loop [1, 2, 5] (.exit 0) (ldOut wd tk qr lr sr bw))] = some ([A3 false], [], [Ev C0 Ab (.code 114 false (BE Tryz.prog 114 0) (ldHd wd tk qr lr sr bw i 0)) (.code (.exit 0) (ldOut wd tk qr lr sr bw))]) := by kernel_rfl
theorem ld_t (wd tk qr lr sr bw : A8) (i : Int) : Cs C0 Ab 60 114 [.agg (AM wd tk qr lr sr bw), A5 i] [(A1 114 8001, .loop [1, 2, 5] .ret (ldHit wd tk qr lr sr bw))] = some ([A3 true], [], [Ev C0 Ab (.code 114 false (BE Tryz.prog 114 0) (ldHd wd tk qr lr sr bw i 0)) (.code .ret (ldHit wd tk qr lr sr bw))]) := by kernel_rfl
theorem lstsR_eq {lr : A8} {ls : List Lst} (h : Ae lstR lr = some ls) : lr = As ls := allSome_map (g := Lst.cs) (fun r a e => lstR_eq e) h
theorem lsOf_eq {lr : A8} {i : Int} {z : Bool} (h : lsOf lr i = some z) : ∃ (ls : List Lst) (n : Nat), lr = As ls ∧ i = n ∧ ls.length < 2 ^ 30 ∧ (∀ l ∈ ls, n < l.next.length) ∧ z = lsAny ls n := by
 unfold lsOf at h
 split at h
 ·rename_i ls hl
  split at h
  ·rename_i hc
   obtain ⟨h1, h2, h3⟩ := hc
   obtain ⟨n, rfl⟩ := Int.eq_ofNat_of_zero_le h1
   simp only [Option.some.injEq, Int.toNat_natCast] at h
   rw [List.all_eq_true] at h3
   exact ⟨ls, n, lstsR_eq hl, rfl, h2, fun l hl => by have := of_decide_eq_true (h3 l hl); simpa using this, h.symm⟩
  ·cases h
 ·cases h
theorem ls_drop {ls : List Lst} {j : Nat} (h : j < ls.length) (n : Nat) : lsAny (ls.drop j) n = ((((ls[j]).next[n]?).getD 0 != -2) || lsAny (ls.drop (j + 1)) n) := by
 unfold lsAny
 rw [List.drop_eq_getElem_cons h, List.any_cons]
theorem ls_loop (p : Pla) (ls : List Lst) (n : Nat) (hlr : p.lr = As ls) (hi : p.i = n) (hl : ls.length < 2 ^ 30) (hn : ∀ l ∈ ls, n < l.next.length) : ∀ (d j : Nat), j + d = ls.length →
  if lsAny (ls.drop j) n then ∃ m : Nat, Ev C0 Ab (.code 193 false (BE Tryz.prog 193 0) (lsHd p j)) (.code .ret (lsHit p m)) else Ev C0 Ab (.code 193 false (BE Tryz.prog 193 0) (lsHd p j)) (.code (.exit 0) (lsOut p))
 | 0, j, h => by
  rw [List.drop_eq_nil_of_le (by omega)]
  exact Ac (ls_exit p j) (A0 (by rw [hlr, Cq]; exact dge (by omega)) A2)
 | d + 1, j, h => by
  have hj : j < ls.length := by omega
  have ih := ls_loop p ls n hlr hi hl hn d (j + 1) (by omega)
  rw [ls_drop hj]
  have b0 : decide ((j : Int) < (p.lr.length : Int)) = true := by rw [hlr, Cq]; exact dlt hj
  have hr : 0 ≤ (j : Int) ∧ p.lr[((j : Int)).toNat]? = some (lnC (ls[j]).head (A6 (ls[j]).next)) := ⟨by omega, by rw [hlr]; exact lrows_at (List.getElem?_eq_getElem hj)⟩
  have hnx := hn _ (List.getElem_mem hj)
  have hy : 0 ≤ p.i ∧ (A6 (ls[j]).next)[p.i.toNat]? = some [di (ls[j]).next[n]] := ⟨by omega, by rw [hi]; exact B2 (List.getElem?_eq_getElem hnx)⟩
  have e2 : ((ls[j]).next[n]?).getD 0 = (ls[j]).next[n] := by rw [List.getElem?_eq_getElem hnx]; rfl
  rw [e2]
  cases t : ((ls[j]).next[n] != -2) with
  | true =>
   rw [Bool.true_or, if_pos rfl]
   exact ⟨j, B4 (ls_hit p j _ _ _) (AQ (A0 b0 (A0 hr (A0 hy (A0 t A2)))) td3_ok)⟩
  | false =>
   rw [Bool.false_or]
   have st := fun X s k => Aa _ _ _ _ _ _ (ls_step p j ((j + 1 : Nat) : Int) (ls[j]).head (ls[j]).next[n] (A6 (ls[j]).next) X s) (A0 b0 (A0 hr (A0 hy (A0 t (A0 (Ag (by omega)) (A0 rfl (A0 rfl (A0 rfl (A0 k A2)))))))))
   cases u : lsAny (ls.drop (j + 1)) n with
   | true =>
    rw [u, if_pos rfl] at ih
    rw [if_pos rfl]
    obtain ⟨m, k⟩ := ih
    exact ⟨m, st _ _ k⟩
   | false =>
    rw [u] at ih
    exact st _ _ ih
theorem ls_sat : AJ C0 79 liS := Af (O := Ab) BN (fun _ _ h => h.elim) Bm fun ps rs hs => by
 unfold liS at hs
 split at hs
 ·unfold liV at hs
  split at hs
  ·rename_i p hp
   obtain rfl := plP_eq hp
   split at hs
   ·rename_i z hz
    simp only [Option.some.injEq] at hs; subst hs
    obtain ⟨ls, n, h1, h2, h3, h4, rfl⟩ := lsOf_eq hz
    have k := ls_loop p ls n h1 h2 h3 h4 ls.length 0 (by omega)
    rw [List.drop_zero] at k
    cases u : lsAny ls n with
    | true =>
     rw [u, if_pos rfl] at k
     obtain ⟨m, k⟩ := k
     exact A4 (ls_t p m) (A0 k (A0 (decide_eq_true (by omega)) A2))
    | false =>
     rw [u] at k
     exact A4 (ls_f p) (A0 k A2)
   ·cases hs
  ·cases hs
 ·cases hs
def ldRes (wd tk qr lr sr bw : A8) (b : Bool) : X × St := if b then (.ret, ldHit wd tk qr lr sr bw) else (.exit 0, ldOut wd tk qr lr sr bw)
theorem ld_loop (wd tk qr sr bw : A8) (ls : List Lst) (n : Nat) (hl : ls.length < 2 ^ 30) (hn : ∀ l ∈ ls, n < l.next.length) : ∀ (d j : Nat), j + d = ls.length →
  Ev C0 Ab (.code 114 false (BE Tryz.prog 114 0) (ldHd wd tk qr (As ls) sr bw n j)) (.code (ldRes wd tk qr (As ls) sr bw (lsAny (ls.drop j) n)).1 (ldRes wd tk qr (As ls) sr bw (lsAny (ls.drop j) n)).2)
 | 0, j, h => by
  rw [List.drop_eq_nil_of_le (by omega)]
  exact Ac (ld_exit _ _ _ _ _ _ _ j) (A0 (by rw [Cq]; exact dge (by omega)) A2)
 | d + 1, j, h => by
  have hj : j < ls.length := by omega
  have ih := ld_loop wd tk qr sr bw ls n hl hn d (j + 1) (by omega)
  rw [ls_drop hj]
  have b0 : decide ((j : Int) < ((As ls).length : Int)) = true := by rw [Cq]; exact dlt hj
  have hr : 0 ≤ (j : Int) ∧ (As ls)[((j : Int)).toNat]? = some (lnC (ls[j]).head (A6 (ls[j]).next)) := ⟨by omega, lrows_at (List.getElem?_eq_getElem hj)⟩
  have hnx := hn _ (List.getElem_mem hj)
  have hy : 0 ≤ (n : Int) ∧ (A6 (ls[j]).next)[((n : Int)).toNat]? = some [di (ls[j]).next[n]] := ⟨by omega, B2 (List.getElem?_eq_getElem hnx)⟩
  have e2 : ((ls[j]).next[n]?).getD 0 = (ls[j]).next[n] := by rw [List.getElem?_eq_getElem hnx]; rfl
  rw [e2]
  cases t : ((ls[j]).next[n] != -2) with
  | true => exact Ac (ld_hit _ _ _ _ _ _ _ j _ _ _) (A0 b0 (A0 hr (A0 hy (A0 t A2))))
  | false =>
   rw [Bool.false_or]
   exact Aa _ _ _ _ _ _ (ld_step _ _ _ _ _ _ _ j ((j + 1 : Nat) : Int) _ _ _ _ _) (A0 b0 (A0 hr (A0 hy (A0 t (A0 (Ag (by omega)) (A0 ih A2))))))
theorem lrOf_eq {cs : List DV} {lr : A8} (h : lrOf cs = some lr) : ∃ wd tk qr sr bw, cs = AM wd tk qr lr sr bw := by
 unfold lrOf at h
 split at h
 ·simp only [Option.some.injEq] at h; subst h; exact ⟨_, _, _, _, _, rfl⟩
 ·cases h
theorem ld_sat : AJ C0 114 ldS := Af (O := Ab) BN (fun _ _ h => h.elim) Bm fun ps rs hs => by
 unfold ldS at hs
 split at hs
 ·unfold ldV at hs
  split at hs
  ·rename_i lr hp
   obtain ⟨wd, tk, qr, sr, bw, rfl⟩ := lrOf_eq hp
   split at hs
   ·rename_i z hz
    simp only [Option.some.injEq] at hs; subst hs
    obtain ⟨ls, n, rfl, rfl, h3, h4, rfl⟩ := lsOf_eq hz
    have k := ld_loop wd tk qr sr bw ls n h3 h4 ls.length 0 (by omega)
    rw [List.drop_zero] at k
    cases u : lsAny ls n with
    | true =>
     rw [u] at k
     exact A4 (ld_t _ _ _ _ _ _ _) (A0 k A2)
    | false =>
     rw [u] at k
     exact A4 (ld_f _ _ _ _ _ _ _) (A0 k A2)
   ·cases hs
  ·cases hs
 ·cases hs
noncomputable def CMe : Ctx := Ad C0 79 liS
theorem hPMe : Aw CMe := A7 BN ls_sat (by kernel_rfl)
theorem liS_at {p : Pla} {z : Bool} (h : lsOf p.lr p.i = some z) : liS [.agg p.cs] = some [A3 z] := by
 show liV (plP p.cs) = _
 rw [plP_cs, liV, h]
theorem meS_at {p : Pla} {t : Nat} (h : meT p = some t) : meS [.agg p.cs] = some [.ifc t p.cs] := by
 show meV (plP p.cs) = _
 rw [plP_cs, meV, h]
theorem me_0 (p : Pla) : Cs CMe Ab 60 35 [.agg p.cs] [(A1 35 7, .b true)] = some ([.ifc 120 p.cs], [], [(p.k == 0) = true]) := by kernel_rfl
theorem me_4 (p : Pla) : Cs CMe Ab 60 35 [.agg p.cs] [(A1 35 7, .b false), (A1 35 12, .b true)] = some ([.ifc 162 p.cs], [], [(p.k == 0) = false, (p.k == 4) = true]) := by kernel_rfl
theorem me_5 (p : Pla) : Cs CMe Ab 60 35 [.agg p.cs] [(A1 35 7, .b false), (A1 35 12, .b false), (A1 35 17, .b true)] = some ([.ifc 163 p.cs], [], [(p.k == 0) = false, (p.k == 4) = false, (p.k == 5) = true]) := by kernel_rfl
theorem me_6 (p : Pla) : Cs CMe Ab 60 35 [.agg p.cs] [(A1 35 7, .b false), (A1 35 12, .b false), (A1 35 17, .b false), (A1 35 22, .b true)] = some ([.ifc 164 p.cs], [], [(p.k == 0) = false, (p.k == 4) = false, (p.k == 5) = false, (p.k == 6) = true]) := by kernel_rfl
theorem me_3 (p : Pla) : Cs CMe Ab 60 35 [.agg p.cs] [(A1 35 7, .b false), (A1 35 12, .b false), (A1 35 17, .b false), (A1 35 22, .b false), (A1 35 27, .b true)] = some ([.ifc 165 p.cs], [], [(p.k == 0) = false, (p.k == 4) = false, (p.k == 5) = false, (p.k == 6) = false, (p.k == 3) = true]) := by kernel_rfl
theorem me_b (p : Pla) : Cs CMe Ab 60 35 [.agg (Pla.cs { p with b := true })] [(A1 35 7, .b false), (A1 35 12, .b false), (A1 35 17, .b false), (A1 35 22, .b false), (A1 35 27, .b false)] = some ([.ifc 165 (Pla.cs { p with b := true })], [], [(p.k == 0) = false, (p.k == 4) = false, (p.k == 5) = false, (p.k == 6) = false, (p.k == 3) = false]) := by kernel_rfl
theorem me_lt (p : Pla) : Cs CMe Ab 60 35 [.agg (Pla.cs { p with b := false })] [(A1 35 7, .b false), (A1 35 12, .b false), (A1 35 17, .b false), (A1 35 22, .b false), (A1 35 27, .b false), (A1 35 38, .b true), (A1 35 41, .prim [A3 true])] = some ([.ifc 165 (Pla.cs { p with b := false })], [], [(p.k == 0) = false, (p.k == 4) = false, (p.k == 5) = false, (p.k == 6) = false, (p.k == 3) = false, (p.k == 2) = true, liS [.agg (Pla.cs { p with b := false })] = some [A3 true]]) := by kernel_rfl
theorem me_lf (p : Pla) : Cs CMe Ab 60 35 [.agg (Pla.cs { p with b := false })] [(A1 35 7, .b false), (A1 35 12, .b false), (A1 35 17, .b false), (A1 35 22, .b false), (A1 35 27, .b false), (A1 35 38, .b true), (A1 35 41, .prim [A3 false])] = some ([.ifc 166 (Pla.cs { p with b := false })], [], [(p.k == 0) = false, (p.k == 4) = false, (p.k == 5) = false, (p.k == 6) = false, (p.k == 3) = false, (p.k == 2) = true, liS [.agg (Pla.cs { p with b := false })] = some [A3 false]]) := by kernel_rfl
theorem me_a (p : Pla) : Cs CMe Ab 60 35 [.agg (Pla.cs { p with b := false })] [(A1 35 7, .b false), (A1 35 12, .b false), (A1 35 17, .b false), (A1 35 22, .b false), (A1 35 27, .b false), (A1 35 38, .b false)] = some ([.ifc 166 (Pla.cs { p with b := false })], [], [(p.k == 0) = false, (p.k == 4) = false, (p.k == 5) = false, (p.k == 6) = false, (p.k == 3) = false, (p.k == 2) = false]) := by kernel_rfl
theorem me_sat : AJ C0 35 meS := AJ.ctx (C := CMe) rfl rfl (Af (O := Ab) hPMe (fun _ _ h => h.elim) Bm fun ps rs hs => by
 unfold meS at hs
 split at hs
 ·unfold meV at hs
  split at hs
  ·rename_i p hp
   obtain rfl := plP_eq hp
   split at hs
   ·rename_i t ht
    simp only [Option.some.injEq] at hs; subst hs
    obtain ⟨wd, tk, qr, lr, sr, bw, i, k, c, b, s, g⟩ := p
    unfold meT at ht
    simp only at ht
    have bt : ∀ {x y : Int}, x = y → (x == y) = true := fun h => by rw [h]; exact beq_self_eq_true _
    have bf : ∀ {x y : Int}, ¬ x = y → (x == y) = false := fun h => beq_eq_false_iff_ne.2 h
    split at ht
    ·rename_i h0
     simp only [Option.some.injEq] at ht; subst ht
     exact A4 (me_0 _) (A0 (bt h0) A2)
    ·rename_i h0
     split at ht
     ·rename_i h4
      simp only [Option.some.injEq] at ht; subst ht
      exact A4 (me_4 _) (A0 (bf h0) (A0 (bt h4) A2))
     ·rename_i h4
      split at ht
      ·rename_i h5
       simp only [Option.some.injEq] at ht; subst ht
       exact A4 (me_5 _) (A0 (bf h0) (A0 (bf h4) (A0 (bt h5) A2)))
      ·rename_i h5
       split at ht
       ·rename_i h6
        simp only [Option.some.injEq] at ht; subst ht
        exact A4 (me_6 _) (A0 (bf h0) (A0 (bf h4) (A0 (bf h5) (A0 (bt h6) A2))))
       ·rename_i h6
        split at ht
        ·rename_i h3
         simp only [Option.some.injEq] at ht; subst ht
         exact A4 (me_3 _) (A0 (bf h0) (A0 (bf h4) (A0 (bf h5) (A0 (bf h6) (A0 (bt h3) A2)))))
        ·rename_i h3
         have five : ∀ {l : List Prop}, AI l → AI (((k == 0) = false) :: ((k == 4) = false) :: ((k == 5) = false) :: ((k == 6) = false) :: ((k == 3) = false) :: l) := fun hL => A0 (bf h0) (A0 (bf h4) (A0 (bf h5) (A0 (bf h6) (A0 (bf h3) hL))))
         split at ht
         ·rename_i hb
          simp only [Option.some.injEq] at ht; subst ht; subst hb
          exact A4 (me_b ⟨wd, tk, qr, lr, sr, bw, i, k, c, true, s, g⟩) (five A2)
         ·rename_i hb
          have hb : b = false := by simpa using hb
          subst hb
          split at ht
          ·rename_i h2
           split at ht
           ·rename_i z hz
            have hz2 := liS_at (p := ⟨wd, tk, qr, lr, sr, bw, i, k, c, false, s, g⟩) hz
            simp only [Option.some.injEq] at ht; subst ht
            cases z with
            | true => exact A4 (me_lt ⟨wd, tk, qr, lr, sr, bw, i, k, c, false, s, g⟩) (five (A0 (bt h2) (A0 hz2 A2)))
            | false => exact A4 (me_lf ⟨wd, tk, qr, lr, sr, bw, i, k, c, false, s, g⟩) (five (A0 (bt h2) (A0 hz2 A2)))
           ·cases ht
          ·rename_i h2
           simp only [Option.some.injEq] at ht; subst ht
           exact A4 (me_a ⟨wd, tk, qr, lr, sr, bw, i, k, c, false, s, g⟩) (five (A0 (bf h2) A2))
   ·cases hs
  ·cases hs
 ·cases hs)
def Wld.pla (w : Wld) (i : Nat) (x : Nat) : Pla := ⟨An w.words, Aq w.tasks, Ak w.queues, As w.lists, Ao w.stops, A6 w.bys, i, (At x).kind, (At x).cpu, (At x).bit, (At x).seq, (At x).gen⟩
open Classical in
noncomputable def atV (i : Int) : Option Wld → Option (List PV)
 | some w => if 0 ≤ i then match w.words[i.toNat]? with
  | some x => if Ck x = true then some [.agg (w.pla i.toNat x).cs] else none
  | none => none
  else none
 | none => none
noncomputable def atS : Spec
 | [.agg cs, .one (.v (.int .i64 i))] => atV i (wldR cs)
 | _ => none
theorem atS_at {w : Wld} (ok : w.Ok) {i x : Nat} (hx : w.words[i]? = some x) (h : Ck x = true) : atS [.agg w.cs, A5 i] = some [.agg (w.pla i x).cs] := by
 show atV i (wldR w.cs) = _
 rw [wldR_cs ok]
 simp only [atV, Int.toNat_natCast, hx]
 rw [if_pos (by omega), if_pos h]
noncomputable def CAt : Ctx := Ad C0 78 AN
theorem hPAt : Aw CAt := A7 BN (unpack_sat.ctx rfl rfl) (by kernel_rfl)
theorem at_1 (wd tk qr lr sr bw : A8) (i x k c s g e : Int) (b : Bool) : Cs CAt Ab 60 34 [.agg (AM wd tk qr lr sr bw), A5 i] [(A1 34 12, .row [du x]), (A1 34 14, .prim [.agg (Bg k c s g b), A5 e])] = some ([.agg (plC wd tk qr lr sr bw i k c b s g)], [], [0 ≤ i ∧ wd[i.toNat]? = some [du x], AN [pu x] = some [.agg (Bg k c s g b), A5 e]]) := by kernel_rfl
theorem at_sat : AJ C0 34 atS := AJ.ctx (C := CAt) rfl rfl (Af (O := Ab) hPAt (fun _ _ h => h.elim) Bm fun ps rs hs => by
 unfold atS at hs
 split at hs
 ·rename_i cs i
  unfold atV at hs
  split at hs
  ·rename_i w hw
   obtain ⟨rfl, ok⟩ := BY hw
   split at hs
   ·rename_i hi
    obtain ⟨n, rfl⟩ := Int.eq_ofNat_of_zero_le hi
    rw [Int.toNat_natCast] at hs
    split at hs
    ·rename_i x hx
     split at hs
     ·rename_i ho
      simp only [Option.some.injEq] at hs; subst hs
      exact A4 (at_1 _ _ _ _ _ _ n x _ _ _ _ 0 _) (A0 ⟨by omega, wrows_at hx⟩ (A0 (unpackS_ok (ok.words _ (List.mem_of_getElem? hx)) ho) A2))
     ·cases hs
    ·cases hs
   ·cases hs
  ·cases hs
 ·cases hs)
def clS : Spec
 | [.one (.mn 2 rows)] => if rows.length < 2 ^ 29 then some [.one (.mn 2 rows)] else none
 | _ => none
theorem cl_nil : Cs C0 Ab 60 36 [.one dnil] [] = some ([.one dnil], [], []) := by kernel_rfl
theorem cl_e (rows : A8) : Cs C0 Ab 60 36 [.one (.sl 2 false rows)] [(A1 36 7, .app true)] = some ([.one (.sl 2 true [])], [], [rows.isEmpty = true]) := by kernel_rfl
theorem cl_f (rows : A8) : Cs C0 Ab 60 36 [.one (.sl 2 false rows)] [(A1 36 7, .app false)] = some ([.one (.sl 2 false ([] ++ rows))], [], [rows.isEmpty = false ∧ Am 0 rows.length 16]) := by kernel_rfl
theorem fits_many {k : Nat} (hk : k < 2 ^ 29) : Am 0 k 16 := by
 show (2 * (0 + k) + 1000) * 16 ≤ 140737488355328
 have : k < 536870912 := hk
 omega
theorem cl_o (a : Addr) (c : Nat) : Cs C0 Ab 60 36 [.one (.v (.slice (some a) 0 c))] [] = some ([.one (.sl 2 true [])], [], []) := by kernel_rfl
theorem cl_sat : AJ C0 36 clS := AJ.of1 fun ps rs hs => by
 unfold clS at hs
 split at hs
 ·rename_i rows
  split at hs
  ·rename_i hl
   simp only [Option.some.injEq] at hs; subst hs
   refine Sat1.mn (fun e => ?_) (fun e a c => ?_) ?_
   ·subst e
    exact sat1_ev (O := Ab) BN (fun _ _ h => h.elim) Bm (.same _) (.cons (.one (.nil 2)) .nil) (A4 cl_nil A2)
   ·subst e
    exact sat1_ev (O := Ab) BN (fun _ _ h => h.elim) Bm (.same _) (.cons (.one (.row 2 true [])) .nil) (A4 (cl_o a c) A2)
   ·cases rows with
    | nil => exact sat1_ev (O := Ab) BN (fun _ _ h => h.elim) Bm (.same _) (.cons (.one (.row 2 true [])) .nil) (A4 (cl_e []) (A0 rfl A2))
    | cons r l => exact sat1_ev (O := Ab) BN (fun _ _ h => h.elim) Bm (.same _) (.cons (.one (.row 2 false (r :: l))) .nil) (A4 (cl_f (r :: l)) (A0 ⟨rfl, fits_many hl⟩ A2))
  ·cases hs
 ·cases hs
noncomputable def CMo : Ctx := Ad (Ad (Ad (Ad (Ad (Ad (Ad (Ad (Ad (Ad C0 33 wrS) 34 atS) 35 meS) 258 (itS it0)) 265 (itS (itK 1))) 264 (itS (itK 3))) 259 (itS it4)) 261 (itS it5)) 262 (itS it6)) 36 clS
theorem hPMo : Aw CMo := A7 (A7 (A7 (A7 (A7 (A7 (A7 (A7 (A7 (A7 BN (cr_sat.ctx rfl rfl) (by kernel_rfl)) (at_sat.ctx rfl rfl) (by kernel_rfl)) (me_sat.ctx rfl rfl) (by kernel_rfl)) (i0_sat.ctx rfl rfl) (by kernel_rfl)) (i1_sat.ctx rfl rfl) (by kernel_rfl)) (i3_sat.ctx rfl rfl) (by kernel_rfl)) (i4_sat.ctx rfl rfl) (by kernel_rfl)) (i5_sat.ctx rfl rfl) (by kernel_rfl)) (i6_sat.ctx rfl rfl) (by kernel_rfl)) (cl_sat.ctx rfl rfl) (by kernel_rfl)
def mdH (wd tk qr lr sr bw : A8) (a b c : AV) (t : AC) : H := { objs := [(A1 14 1, 1, [.cells ((AM wd tk qr lr sr bw).map .d) false]), (A1 14 2, 1, [.cells [a, b, c] false])], toks := t }
def md1 (wd tk qr lr sr bw : A8) (a : AV) (t : AC) (i : Int) : St := { σ := Ap 75 [(1, .ptr (A1 14 1) 0 0), (2, .ptr (A1 14 2) 0 0), (16, .d (.mn 3 tk)), (17, vi tk.length), (18, vi i)], h := mdH wd tk qr lr sr bw a (.d dnil) (.d dnil) t }
def md1O (wd tk qr lr sr bw : A8) (a : AV) (t : AC) : St := { σ := Ap 75 [(1, .ptr (A1 14 1) 0 0), (2, .ptr (A1 14 2) 0 0)], h := mdH wd tk qr lr sr bw a (.d dnil) (.d dnil) t }
def md2 (wd tk qr lr sr bw : A8) (a b c : AV) (t : AC) (i : Int) : St := { σ := Ap 75 [(1, .ptr (A1 14 1) 0 0), (2, .ptr (A1 14 2) 0 0), (48, .d (.mn 7 qr)), (49, vi qr.length), (50, vi i)], h := mdH wd tk qr lr sr bw a b c t }
def md2O (wd tk qr lr sr bw : A8) (a b c : AV) (t : AC) : St := { σ := Ap 75 [(2, .ptr (A1 14 2) 0 0)], h := mdH wd tk qr lr sr bw a b c t }
end Go.Ev
