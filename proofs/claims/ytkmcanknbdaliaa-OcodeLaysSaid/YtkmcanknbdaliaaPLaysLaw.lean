/- The law OcodeLays holds for any code, any form and any area: where areas lie, and their words; no condition. -/
import Derived.Test.YtkmcanknbdaliaaRows
import Derived.Test.YtkmcanknbdaliaaPLaysD3
import Derived.ProofKit
import Derived.OpenShut
import Derived.ChangeOld
set_option linter.unusedVariables false
set_option linter.unusedSimpArgs false
namespace Go.Proofs.Ytkmcanknbdaliaa.ocodeLays
open Go Go.ChangeShapes Go.WideShapes Go.ChangeAt Go.RowKit Go.Pv
theorem own : ownKnob Try.prog.godebug = none := by kernel_rfl
theorem laidOut : laidOutB Try.prog = true := by kernel_rfl
set_option maxRecDepth 100000 in
theorem lifted (os : Os) (started : os.Started) (H : Type) (enc : TypeId × Value → H) :
    ReturnsInHanded {} Try.checked os 10 .any (Rows.ocodeLaysSpec.pre6 enc Try.prog Try.f10 Rows.ocodeLaysRow.domain false) (Rows.ocodeLaysSpec.post enc Try.prog Try.f10 false true false false) := by
  refine returnsInHanded_of_change_sized (C := Try.checked) own started (by kernel_rfl) Try.func10
    (ChangeSpec.witness6 (enc := enc) (C := Try.checked) false ⟨#[], #[.agg #[.string ByteArray.empty, .slice none 0 0, .slice none 0 0, .slice none 0 0, .int .i64 0, .int .i64 0], .agg #[.int .i64 0, .bool false], .agg #[.string ByteArray.empty, .bool false, .slice none 0 0]], []⟩ 8 (by kernel_rfl) (by kernel_rfl) (by kernel_rfl) (by kernel_rfl)) ?_
  intro W base args ds gs before hval0 hW hcnd hsz0 _
  have hsz : (DataW.weightsEach Try.prog (Try.f10.params.toList ++ Rows.ocodeLaysSpec.plain.varTypes Try.prog) (ds ++ gs)).all (· ≤ reachBytes) = true := hsz0
  have hval : ∀ (j : Nat) t v, Try.f10.params[j]? = some t → args[j]? = some v → Value.okWide Try.prog W .any base t v := hval0
  have hW' := hW
  obtain ⟨p, q, hA0, hV, rfl, hfz, hnd⟩ := hW
  have hA : DataW.TrodAll enc Try.prog W 0 (fun _ => true) true Try.f10.params.toList args.toList ds p := hA0
  rw [Try.params10] at hA hval hsz
  obtain ⟨v0, vs0, d0, ds0, p0, q0, hargs, rfl, rfl, h0, r0⟩ := trodAll_cons hA
  obtain ⟨v1, vs1, d1, ds1, p1, q1, rfl, rfl, rfl, h1, r1⟩ := trodAll_cons r0
  obtain ⟨v2, vs2, d2, ds2, p2, q2, rfl, rfl, rfl, h2, r2⟩ := trodAll_cons r1
  obtain ⟨rfl, rfl, rfl⟩ := trodAll_nil r2
  obtain rfl : args = #[v0, v1, v2] := by cases args; simp_all
  obtain ⟨rfl, rfl⟩ := trodVars_none hV
  have hok : ∀ b, b < W.heap.size → (⟨fun b => b < W.heap.size, W.heap.size, fun _ => undef⟩ : Gh).ok b := fun b hb => ⟨hb, hb, fun n h => by simp [undef, blk] at h⟩
  obtain ⟨x0, f0, g0, e0⟩ := arg_st (n := 5) (ob := fun _ => .none) hok Try.underlying26 (by kernel_rfl) (by kernel_rfl) (hval 0 _ v0 rfl rfl) h0 hsz (j := 0) rfl rfl
  have lt0 : ∀ x ∈ p0, x.block < W.heap.size := by obtain ⟨m, hm⟩ := h0; exact DataW.trod_lt m _ _ _ hm
  obtain ⟨x1, f1, g1, e1⟩ := arg_st (n := 3) (ob := fun _ => .none) hok Try.underlying45 (by kernel_rfl) (by kernel_rfl) (hval 1 _ v1 rfl rfl) h1 hsz (j := 1) rfl rfl
  have lt1 : ∀ x ∈ p1, x.block < W.heap.size := by obtain ⟨m, hm⟩ := h1; exact DataW.trod_lt m _ _ _ hm
  obtain ⟨x2, f2, g2, e2⟩ := arg_st (n := 4) (ob := fun _ => .none) hok Try.underlying47 (by kernel_rfl) (by kernel_rfl) (hval 2 _ v2 rfl rfl) h2 hsz (j := 2) rfl rfl
  have lt2 : ∀ x ∈ p2, x.block < W.heap.size := by obtain ⟨m, hm⟩ := h2; exact DataW.trod_lt m _ _ _ hm
  clear hA0 hval0 hsz0 hsz
  have key : Gw06_OcodeLays.g (x0, x1, x2) = some true := lays_pure x0 x1 x2 (wide_of f0)
  have hrel : RelVs Try.prog ⟨fun b => b < W.heap.size, W.heap.size, fun _ => undef⟩ (fun _ => .none) W (envR Try.prog 0 Gw06_OcodeLays.pk (x0, x1, x2)) [v0, v1, v2] := by
    simp only [Gw06_OcodeLays.pk, envR, mkK, RelVs]
    exact ⟨e0, e1, e2, trivial⟩
  refine (Gw06_OcodeLays.spec (x0, x1, x2) true key (fun b => b < W.heap.size) W _ hrel).mono fun e W' he => ?_
  obtain ⟨vs, η, rfl, bel, hr, -, -, -⟩ := he
  have hvs : vs = [.bool true] := by
    cases vs with
    | nil => simp only [Gw06_OcodeLays.rk, envR, RelVs] at hr
    | cons v r =>
      cases r with
      | nil =>
        simp only [Gw06_OcodeLays.rk, envR, mkK, RelVs, RelV] at hr
        rw [hr.1]
      | cons => simp only [Gw06_OcodeLays.rk, envR, RelVs, and_false] at hr
  subst hvs
  exact ⟨_, rfl, _, _, _, [], _, [], hW', trodAll_mk1 (shut_bool Try.underlying4 _), (trodAll_cons_mk (Below.trod laidOut (by kernel_rfl) (of_decide_eq_true (by kernel_rfl)) h0 bel lt0) (trodAll_cons_mk (Below.trod laidOut (by kernel_rfl) (of_decide_eq_true (by kernel_rfl)) h1 bel lt1) (trodAll_cons_mk (Below.trod laidOut (by kernel_rfl) (of_decide_eq_true (by kernel_rfl)) h2 bel lt2) trodAll_mk0))), rfl, bel.frame _, fun h => by cases h⟩
theorem over : Rows.ocodeLaysRow.holds Try.pinned (OpenSpec.ofChange Rows.ocodeLaysSpec) :=
  OpenClaim.holds_of_wide 10 Try.f10 rfl rfl rfl rfl rfl rfl rfl ⟨rfl, rfl, rfl, rfl, rfl⟩ rfl rfl rfl rfl rfl (by kernel_rfl) Try.func10 (by kernel_rfl)
    (of_decide_eq_true (by kernel_rfl)) (by unfold Func.isWrapper; first | (rw [if_pos (by decide +kernel)]; kernel_rfl) | (rw [if_neg (by decide +kernel)]; exact ⟨rfl, rfl⟩))
    (fun os started H enc _ => lifted os started H enc)
theorem proved : Rows.OcodeLaysSaid := over
#print axioms proved
end Go.Proofs.Ytkmcanknbdaliaa.ocodeLays
namespace Go.Proofs.Ytkmcanknbdaliaa
theorem ocodeLays_holds : Rows.OcodeLaysSaid := ocodeLays.proved
end Go.Proofs.Ytkmcanknbdaliaa
