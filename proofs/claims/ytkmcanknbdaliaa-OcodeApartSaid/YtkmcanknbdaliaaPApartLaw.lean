/- The law OcodeApart holds for any code and any number: code with one procedure left out has the depths and rooms of the others; no condition. -/
import Derived.Test.YtkmcanknbdaliaaRows
import Derived.Test.YtkmcanknbdaliaaPApartD2
import Derived.ProofKit
import Derived.OpenShut
import Derived.ChangeOld
set_option linter.unusedVariables false
set_option linter.unusedSimpArgs false
namespace Go.Proofs.Ytkmcanknbdaliaa.ocodeApart
open Go Go.ChangeShapes Go.WideShapes Go.ChangeAt Go.RowKit Go.Pv
theorem own : ownKnob Try.prog.godebug = none := by kernel_rfl
theorem laidOut : laidOutB Try.prog = true := by kernel_rfl
set_option maxRecDepth 100000 in
theorem lifted (os : Os) (started : os.Started) (H : Type) (enc : TypeId × Value → H) :
    ReturnsInHanded {} Try.checked os 4 .any (Rows.ocodeApartSpec.pre6 enc Try.prog Try.f4 Rows.ocodeApartRow.domain false) (Rows.ocodeApartSpec.post enc Try.prog Try.f4 false true false false) := by
  refine returnsInHanded_of_change_sized (C := Try.checked) own started (by kernel_rfl) Try.func4
    (ChangeSpec.witness6 (enc := enc) (C := Try.checked) false ⟨#[], #[.agg #[.string ByteArray.empty, .slice none 0 0, .slice none 0 0, .slice none 0 0, .int .i64 0, .int .i64 0], .int .i64 0], []⟩ 8 (by kernel_rfl) (by kernel_rfl) (by kernel_rfl) (by kernel_rfl)) ?_
  intro W base args ds gs before hval0 hW hcnd hsz0 _
  have hsz : (DataW.weightsEach Try.prog (Try.f4.params.toList ++ Rows.ocodeApartSpec.plain.varTypes Try.prog) (ds ++ gs)).all (· ≤ reachBytes) = true := hsz0
  have hval : ∀ (j : Nat) t v, Try.f4.params[j]? = some t → args[j]? = some v → Value.okWide Try.prog W .any base t v := hval0
  have hW' := hW
  obtain ⟨p, q, hA0, hV, rfl, hfz, hnd⟩ := hW
  have hA : DataW.TrodAll enc Try.prog W 0 (fun _ => true) true Try.f4.params.toList args.toList ds p := hA0
  rw [Try.params4] at hA hval hsz
  obtain ⟨v0, vs0, d0, ds0, p0, q0, hargs, rfl, rfl, h0, r0⟩ := trodAll_cons hA
  obtain ⟨v1, vs1, d1, ds1, p1, q1, rfl, rfl, rfl, h1, r1⟩ := trodAll_cons r0
  obtain ⟨rfl, rfl, rfl⟩ := trodAll_nil r1
  obtain rfl : args = #[v0, v1] := by cases args; simp_all
  obtain ⟨rfl, rfl⟩ := trodVars_none hV
  have hok : ∀ b, b < W.heap.size → (⟨fun b => b < W.heap.size, W.heap.size, fun _ => undef⟩ : Gh).ok b := fun b hb => ⟨hb, hb, fun n h => by simp [undef, blk] at h⟩
  obtain ⟨x0, f0, g0, e0⟩ := arg_st (n := 5) (ob := fun _ => .none) hok Try.underlying26 (by kernel_rfl) (by kernel_rfl) (hval 0 _ v0 rfl rfl) h0 hsz (j := 0) rfl rfl
  have lt0 : ∀ x ∈ p0, x.block < W.heap.size := by obtain ⟨m, hm⟩ := h0; exact DataW.trod_lt m _ _ _ hm
  obtain ⟨x1, rfl, rfl, rfl, f1⟩ := open_int Try.underlying3 (hval 1 _ v1 rfl rfl) h1
  clear hA0 hval0 hsz0 hsz
  have key : Gw06_OcodeApart.g (x0, x1) = some true := apart_pure x0 (wide_of f0) x1
  have hrel : RelVs Try.prog ⟨fun b => b < W.heap.size, W.heap.size, fun _ => undef⟩ (fun _ => .none) W (envR Try.prog 0 Gw06_OcodeApart.pk (x0, x1)) [v0, .int .i64 x1] := by
    simp only [Gw06_OcodeApart.pk, envR, mkK, RelVs]
    exact ⟨e0, (by simp only [RelV]), trivial⟩
  refine (Gw06_OcodeApart.spec (x0, x1) true key (fun b => b < W.heap.size) W _ hrel).mono fun e W' he => ?_
  obtain ⟨vs, η, rfl, bel, hr, -, -, -⟩ := he
  have hvs : vs = [.bool true] := by
    cases vs with
    | nil => simp only [Gw06_OcodeApart.rk, envR, RelVs] at hr
    | cons v r =>
      cases r with
      | nil =>
        simp only [Gw06_OcodeApart.rk, envR, mkK, RelVs, RelV] at hr
        rw [hr.1]
      | cons => simp only [Gw06_OcodeApart.rk, envR, RelVs, and_false] at hr
  subst hvs
  exact ⟨_, rfl, _, _, _, [], _, [], hW', trodAll_mk1 (shut_bool Try.underlying4 _), (trodAll_cons_mk (Below.trod laidOut (by kernel_rfl) (of_decide_eq_true (by kernel_rfl)) h0 bel lt0) (trodAll_cons_mk (shut_int Try.underlying3 f1) trodAll_mk0)), rfl, bel.frame _, fun h => by cases h⟩
theorem over : Rows.ocodeApartRow.holds Try.pinned (OpenSpec.ofChange Rows.ocodeApartSpec) :=
  OpenClaim.holds_of_wide 4 Try.f4 rfl rfl rfl rfl rfl rfl rfl ⟨rfl, rfl, rfl, rfl, rfl⟩ rfl rfl rfl rfl rfl (by kernel_rfl) Try.func4 (by kernel_rfl)
    (of_decide_eq_true (by kernel_rfl)) (by unfold Func.isWrapper; first | (rw [if_pos (by decide +kernel)]; kernel_rfl) | (rw [if_neg (by decide +kernel)]; exact ⟨rfl, rfl⟩))
    (fun os started H enc _ => lifted os started H enc)
theorem proved : Rows.OcodeApartSaid := over
#print axioms proved
end Go.Proofs.Ytkmcanknbdaliaa.ocodeApart
namespace Go.Proofs.Ytkmcanknbdaliaa
theorem ocodeApart_holds : Rows.OcodeApartSaid := ocodeApart.proved
end Go.Proofs.Ytkmcanknbdaliaa
