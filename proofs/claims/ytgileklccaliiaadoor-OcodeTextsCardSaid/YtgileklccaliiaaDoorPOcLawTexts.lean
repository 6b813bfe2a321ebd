/- The text of code is that of the chapter, and refused code is refused alike. -/
import Derived.Test.YtgileklccaliiaaDoorRows
import Derived.Test.YtgileklccaliiaaDoorCards
import Derived.Test.YtgileklccaliiaaDoorTie
import Derived.Test.YtgileklccaliiaaDoorPOcC
import Derived.Test.YtgileklccaliiaaDoorPOcD2
import Derived.Test.YtgileklccaliiaaDoorPOcHTab
import Derived.ProofKit
import Derived.OpenShut
import Derived.ShutString
import Derived.ChangeOld
import Derived.Deep.DeepHandedRow
import Derived.Deep.DeepWitnessRowRef
import Derived.Deep.DeepLaidRun
set_option linter.unusedVariables false
set_option linter.unusedSimpArgs false
namespace Go.Proofs.YtgileklccaliiaaDoor.ocodeTexts
open Go Go.ChangeShapes Go.WideShapes Go.ChangeAt Go.RowKit Go.Pv
theorem own : ownKnob Tryd.prog.godebug = none := by kernel_rfl
theorem laidOut : laidOutB Tryd.prog = true := by kernel_rfl
theorem laid_eq : Rows.ocodeTextsRow.laid = LxTab.laidL := by kernel_rfl
set_option maxRecDepth 100000 in
theorem contract (H : Type) (enc : TypeId × Value → H) (W : World) (base : Nat) (args : Array Value) (ds gs : List (DataW H)) (before : List MemPlace)
    (hval0 : ∀ (j : Nat) t v, Tryd.f3.params[j]? = some t → args[j]? = some v → Value.okWide Tryd.prog W .any base t v)
    (hW : DataW.Whole enc Tryd.prog Tryd.f3.params.toList Rows.ocodeTextsSpec.vars false W args.toList ds gs before)
    (hsz0 : (DataW.weightsEach Tryd.prog (Tryd.f3.params.toList ++ Rows.ocodeTextsSpec.plain.varTypes Tryd.prog) (ds ++ gs)).all (· ≤ reachBytes) = true) (hL : laidMetH Tryd.prog Rows.ocodeTextsRow.laid W) :
    Calls Tryd.prog 3 args W fun e W' => ∃ v, e = .returned v ∧ Rows.ocodeTextsSpec.post enc Tryd.prog Tryd.f3 false true false false W args v W' := by
  have hLaid : LaidC.L Tryd.prog W := by
    have h' : laidMet Tryd.prog Rows.ocodeTextsRow.laid W := hL
    rw [laid_eq] at h'
    exact LxTab.table h'
  have hsz := hsz0
  have hval := hval0
  have hW' := hW
  obtain ⟨p, q, hA0, hV, rfl, hfz, hnd⟩ := hW
  have hA : DataW.TrodAll enc Tryd.prog W 0 (fun _ => true) true Tryd.f3.params.toList args.toList ds p := hA0
  rw [Tryd.params3] at hA hval hsz
  obtain ⟨v0, vs0, d0, ds0, p0, q0, hargs, rfl, rfl, h0, r0⟩ := trodAll_cons hA
  obtain ⟨rfl, rfl, rfl⟩ := trodAll_nil r0
  obtain rfl : args = #[v0] := by cases args; simp_all
  obtain ⟨rfl, rfl⟩ := trodVars_none hV
  have hok : ∀ b, b < W.heap.size → (⟨fun b => b < W.heap.size, W.heap.size, fun _ => undef⟩ : Gh).ok b := fun b hb => ⟨hb, hb, fun n h => by simp [undef, blk] at h⟩
  obtain ⟨x0, f0, g0, e0⟩ := arg_st (n := 5) (ob := fun _ => .none) hok Tryd.underlying26 (by kernel_rfl) (by kernel_rfl) (hval 0 _ v0 rfl rfl) h0 hsz (j := 0) rfl rfl
  have lt0 : ∀ x ∈ p0, x.block < W.heap.size := by obtain ⟨m, hm⟩ := h0; exact DataW.trod_lt m _ _ _ hm
  clear hA0 hval0 hsz0 hsz
  have key : Gw06_OcodeTexts.g x0 = some true := texts_pure x0 (wide_of f0)
  have hrel : RelVs Tryd.prog ⟨fun b => b < W.heap.size, W.heap.size, fun _ => undef⟩ (fun _ => .none) W (envR Tryd.prog 0 Gw06_OcodeTexts.pk x0) [v0] := by
    simp only [Gw06_OcodeTexts.pk, envR, mkK, RelVs]
    exact ⟨e0, trivial⟩
  refine (Gw06_OcodeTexts.spec x0 true key (fun b => b < W.heap.size) W _ hLaid hrel).mono fun e W' he => ?_
  obtain ⟨vs, η, rfl, bel, hr, -, -, -⟩ := he
  have hvs : vs = [.bool true] := by
    cases vs with
    | nil => simp only [Gw06_OcodeTexts.rk, envR, RelVs] at hr
    | cons v r =>
      cases r with
      | nil =>
        simp only [Gw06_OcodeTexts.rk, envR, mkK, RelVs, RelV] at hr
        rw [hr.1]
      | cons => simp only [Gw06_OcodeTexts.rk, envR, RelVs, and_false] at hr
  subst hvs
  exact ⟨_, rfl, _, _, _, [], _, [], hW', trodAll_mk1 (shut_bool Tryd.underlying4 _), (trodAll_cons_mk (Below.trod laidOut (by kernel_rfl) (of_decide_eq_true (by kernel_rfl)) h0 bel lt0) trodAll_mk0), rfl, bel.frame _, fun h => by cases h⟩
theorem reads (os : Os) {H : Type} (enc : TypeId × Value → H) : ∃ places, DataW.whole enc Tryd.prog ((LxTab.laidWorld os).forCall (fun _ _ => 0) ⟨#[], #[.agg #[.string ByteArray.empty, .slice none 0 0, .slice none 0 0, .slice none 0 0, .int .i64 0, .int .i64 0]], []⟩).memory Tryd.f3.params.toList Rows.ocodeTextsSpec.vars false (#[.agg #[.string ByteArray.empty, .slice none 0 0, .slice none 0 0, .slice none 0 0, .int .i64 0, .int .i64 0]] : Array Value).toList 8 = some ([.agg [.lit (.string []), .nil, .nil, .nil, .lit (.int .i64 0), .lit (.int .i64 0)]], [], places) :=
  ⟨[], by kernel_rfl⟩
set_option maxRecDepth 100000 in
theorem lifted (os : Os) (started : os.Started) (H : Type) (enc : TypeId × Value → H) (F : Stop.Interp) :
    ReturnsInHanded {} Tryd.checked os 3 .any ((OpenSpec.ofChange Rows.ocodeTextsSpec).preRow enc Tryd.prog Tryd.f3 Rows.ocodeTextsRow.domain false Rows.ocodeTextsRow.laid) (((OpenSpec.ofChange Rows.ocodeTextsSpec).at F).post enc Tryd.prog Tryd.f3 false true false false) := by
  obtain ⟨places, hx⟩ := reads os enc
  refine returnsInHanded_of_row (C := Tryd.checked) (s := OpenSpec.ofChange Rows.ocodeTextsSpec) own started (by kernel_rfl) Tryd.func3
    (witness_row_atRef (enc := enc) (C := Tryd.checked) false (LxTab.laidWorld os) #[.agg #[.string ByteArray.empty, .slice none 0 0, .slice none 0 0, .slice none 0 0, .int .i64 0, .int .i64 0]] rfl (by kernel_rfl) (by kernel_rfl) (by kernel_rfl)
      (OpenSpec.preRow_of_cond 8 hx (by kernel_rfl) (fun k hk => by cases hk) (by kernel_rfl) (by rw [laid_eq]; exact LxTab.laid_met os _))) ?_
  intro W base args ds gs before hval hW _ _ hsz hL _ _
  exact contract H enc W base args ds gs before hval hW hsz hL
theorem said : Rows.OcodeTextsSaid :=
  OpenClaim.holds_of_cond 3 Tryd.f3 rfl rfl rfl rfl rfl rfl rfl ⟨rfl, rfl, rfl, rfl, rfl⟩ rfl rfl rfl rfl rfl (by kernel_rfl) Tryd.func3 (by kernel_rfl)
    (of_decide_eq_true (by kernel_rfl)) (by unfold Func.isWrapper; first | (rw [if_pos (by decide +kernel)]; kernel_rfl) | (rw [if_neg (by decide +kernel)]; exact ⟨rfl, rfl⟩))
    (fun os started H enc _ F => by rw [OpenClaim.pre_eq_preRow]; exact lifted os started H enc F)
theorem plain (f : FuncId) (fn : Func) (hf : Tryd.pinned.checked.prog.funcNamed "bluebell/bluebelllaw06.OcodeTexts" = some f) (hfn : Tryd.pinned.checked.prog.funcs[f]? = some fn) :
    false = Tryd.pinned.checked.prog.looks [] ∧ ∀ (j : Nat) t, fn.params[j]? = some t → Tryd.pinned.checked.prog.wantsStandIn t = false := by
  obtain rfl : f = 3 := Option.some.inj ((show Tryd.prog.funcNamed "bluebell/bluebelllaw06.OcodeTexts" = some 3 by kernel_rfl).symm.trans hf) |>.symm
  obtain rfl : fn = Tryd.f3 := (Option.some.inj (Tryd.func3.symm.trans hfn)).symm
  refine ⟨by kernel_rfl, fun j t ht => ?_⟩
  rw [Tryd.params3] at ht
  have hm : t = 26 := by simpa using Array.mem_of_getElem? ht
  subst hm
  exact (show Tryd.prog.wantsStandIn 26 = false by kernel_rfl)
theorem card : Rows.OcodeTextsCardSaid :=
  Claim7.holds_tied_plain_at .later [] _ _ _ _ said (fun _ h => by cases h) (by kernel_rfl) (fun _ h => by cases h) ocodeTexts_row_tie rfl ⟨rfl, rfl⟩ (by kernel_rfl) rfl plain (by kernel_rfl)
#print axioms card
end Go.Proofs.YtgileklccaliiaaDoor.ocodeTexts
namespace Go.Proofs.YtgileklccaliiaaDoor
theorem ocodeTexts_holds : Rows.OcodeTextsCardSaid := ocodeTexts.card
end Go.Proofs.YtgileklccaliiaaDoor
