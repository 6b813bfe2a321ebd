/- The law OcodeAgain holds for any code: numbering labels twice is numbering them once, and it changes no depth and no room; no condition. -/
import Derived.Test.YtkmcanknbdaliaaRows
import Derived.Test.YtkmcanknbdaliaaPAgainD2
import Derived.ProofKit
import Derived.OpenShut
import Derived.ChangeOld
set_option linter.unusedVariables false
set_option linter.unusedSimpArgs false
namespace Go.Proofs.Ytkmcanknbdaliaa.ocodeAgain
open Go Go.ChangeShapes Go.WideShapes Go.ChangeAt Go.RowKit Go.Pv
theorem own : ownKnob Try.prog.godebug = none := by kernel_rfl
theorem laidOut : laidOutB Try.prog = true := by kernel_rfl
set_option maxRecDepth 100000 in
theorem lifted (os : Os) (started : os.Started) (H : Type) (enc : TypeId × Value → H) :
    ReturnsInHanded {} Try.checked os 11 .any (Rows.ocodeAgainSpec.pre6 enc Try.prog Try.f11 Rows.ocodeAgainRow.domain false) (Rows.ocodeAgainSpec.post enc Try.prog Try.f11 false true false false) := by
  refine returnsInHanded_of_change_sized (C := Try.checked) own started (by kernel_rfl) Try.func11
    (ChangeSpec.witness6 (enc := enc) (C := Try.checked) false ⟨#[], #[.agg #[.string ByteArray.empty, .slice none 0 0, .slice none 0 0, .slice none 0 0, .int .i64 0, .int .i64 0]], []⟩ 8 (by kernel_rfl) (by kernel_rfl) (by kernel_rfl) (by kernel_rfl)) ?_
  intro W base args ds gs before hval0 hW hcnd hsz0 _
  have hsz : (DataW.weightsEach Try.prog (Try.f11.params.toList ++ Rows.ocodeAgainSpec.plain.varTypes Try.prog) (ds ++ gs)).all (· ≤ reachBytes) = true := hsz0
  have hval : ∀ (j : Nat) t v, Try.f11.params[j]? = some t → args[j]? = some v → Value.okWide Try.prog W .any base t v := hval0
  have hW' := hW
  obtain ⟨p, q, hA0, hV, rfl, hfz, hnd⟩ := hW
  have hA : DataW.TrodAll enc Try.prog W 0 (fun _ => true) true Try.f11.params.toList args.toList ds p := hA0
  rw [Try.params11] at hA hval hsz
  obtain ⟨v0, vs0, d0, ds0, p0, q0, hargs, rfl, rfl, h0, r0⟩ := trodAll_cons hA
  obtain ⟨rfl, rfl, rfl⟩ := trodAll_nil r0
  obtain rfl : args = #[v0] := by cases args; simp_all
  obtain ⟨rfl, rfl⟩ := trodVars_none hV
  have hok : ∀ b, b < W.heap.size → (⟨fun b => b < W.heap.size, W.heap.size, fun _ => undef⟩ : Gh).ok b := fun b hb => ⟨hb, hb, fun n h => by simp [undef, blk] at h⟩
  obtain ⟨x0, f0, g0, e0⟩ := arg_st (n := 5) (ob := fun _ => .none) hok Try.underlying26 (by kernel_rfl) (by kernel_rfl) (hval 0 _ v0 rfl rfl) h0 hsz (j := 0) rfl rfl
  have lt0 : ∀ x ∈ p0, x.block < W.heap.size := by obtain ⟨m, hm⟩ := h0; exact DataW.trod_lt m _ _ _ hm
  clear hA0 hval0 hsz0 hsz
  have key : Gw06_OcodeAgain.g x0 = some true := again_pure x0 (wide_of f0)
  have hrel : RelVs Try.prog ⟨fun b => b < W.heap.size, W.heap.size, fun _ => undef⟩ (fun _ => .none) W (envR Try.prog 0 Gw06_OcodeAgain.pk x0) [v0] := by
    simp only [Gw06_OcodeAgain.pk, envR, mkK, RelVs]
    exact ⟨e0, trivial⟩
  refine (Gw06_OcodeAgain.spec x0 true key (fun b => b < W.heap.size) W _ hrel).mono fun e W' he => ?_
  obtain ⟨vs, η, rfl, bel, hr, -, -, -⟩ := he
  have hvs : vs = [.bool true] := by
    cases vs with
    | nil => simp only [Gw06_OcodeAgain.rk, envR, RelVs] at hr
    | cons v r =>
      cases r with
      | nil =>
        simp only [Gw06_OcodeAgain.rk, envR, mkK, RelVs, RelV] at hr
        rw [hr.1]
      | cons => simp only [Gw06_OcodeAgain.rk, envR, RelVs, and_false] at hr
  subst hvs
  exact ⟨_, rfl, _, _, _, [], _, [], hW', trodAll_mk1 (shut_bool Try.underlying4 _), (trodAll_cons_mk (Below.trod laidOut (by kernel_rfl) (of_decide_eq_true (by kernel_rfl)) h0 bel lt0) trodAll_mk0), rfl, bel.frame _, fun h => by cases h⟩
theorem over : Rows.ocodeAgainRow.holds Try.pinned (OpenSpec.ofChange Rows.ocodeAgainSpec) :=
  OpenClaim.holds_of_wide 11 Try.f11 rfl rfl rfl rfl rfl rfl rfl ⟨rfl, rfl, rfl, rfl, rfl⟩ rfl rfl rfl rfl rfl (by kernel_rfl) Try.func11 (by kernel_rfl)
    (of_decide_eq_true (by kernel_rfl)) (by unfold Func.isWrapper; first | (rw [if_pos (by decide +kernel)]; kernel_rfl) | (rw [if_neg (by decide +kernel)]; exact ⟨rfl, rfl⟩))
    (fun os started H enc _ => lifted os started H enc)
theorem proved : Rows.OcodeAgainSaid := over
#print axioms proved
end Go.Proofs.Ytkmcanknbdaliaa.ocodeAgain
namespace Go.Proofs.Ytkmcanknbdaliaa
theorem ocodeAgain_holds : Rows.OcodeAgainSaid := ocodeAgain.proved
end Go.Proofs.Ytkmcanknbdaliaa
