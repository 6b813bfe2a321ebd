/- The law LexBack holds for any tokens, where what comes in is of bulk at most 1048576: their text, where it is no longer than a source, is scanned to the same tokens; what the row lists of Go's own library is as it is laid, and the card ties it to the program's text. -/
import Derived.Test.YtjlnbhdmbfofdaaDoorRows
import Derived.Test.YtjlnbhdmbfofdaaDoorCards
import Derived.Test.YtjlnbhdmbfofdaaDoorTie
import Derived.Test.YtjlnbhdmbfofdaaDoorPLxC
import Derived.Test.YtjlnbhdmbfofdaaDoorPLxD2
import Derived.Test.YtjlnbhdmbfofdaaDoorPLxHLxTab
import Derived.ProofKit
import Derived.OpenShut
import Derived.ShutString
import Derived.ChangeOld
import Derived.Deep.DeepHandedRow
import Derived.Deep.DeepWitnessRowRef
import Derived.Deep.DeepLaidRun
set_option linter.unusedVariables false
set_option linter.unusedSimpArgs false
namespace Go.Proofs.YtjlnbhdmbfofdaaDoor.lexBack
open Go Go.ChangeShapes Go.WideShapes Go.ChangeAt Go.RowKit Go.Pv
theorem own : ownKnob Tryd.prog.godebug = none := by kernel_rfl
theorem laidOut : laidOutB Tryd.prog = true := by kernel_rfl
theorem laid_eq : Rows.lexBackUptoRow.laid = LxTab.laidL := by kernel_rfl
theorem part_le {H : Type} : ∀ {l : List (DataW H)} {d : DataW H}, d ∈ l → Rows.uptoBulk d ≤ Rows.uptoBulkAll l
  | x :: r, d, h => by
    simp only [Rows.uptoBulkAll]
    rcases List.mem_cons.1 h with rfl | h
    · omega
    · have := part_le h; omega
theorem bulk {H : Type} : Bulk (fun d : DataW H => Rows.uptoBulk d) 1048576 1048576 where
  str := fun l _ h => by simp only [Rows.uptoBulk] at h; omega
  sl := fun d es sp h => by have := part_le h; simp only [Rows.uptoBulk]; omega
  agg := fun d ps h => by have := part_le h; simp only [Rows.uptoBulk]; omega
set_option maxRecDepth 100000 in
theorem contract (H : Type) (enc : TypeId × Value → H) (W : World) (base : Nat) (args : Array Value) (ds gs : List (DataW H)) (before : List MemPlace)
    (hval0 : ∀ (j : Nat) t v, Tryd.f13.params[j]? = some t → args[j]? = some v → Value.okWide Tryd.prog W .any base t v)
    (hW : DataW.Whole enc Tryd.prog Tryd.f13.params.toList Rows.lexBackSpec.vars false W args.toList ds gs before)
    (hsz0 : (DataW.weightsEach Tryd.prog (Tryd.f13.params.toList ++ Rows.lexBackSpec.plain.varTypes Tryd.prog) (ds ++ gs)).all (· ≤ reachBytes) = true) (hL : laidMetH Tryd.prog Rows.lexBackUptoRow.laid W) (hk : Rows.uptoSmall H (ds ++ gs) = true) :
    Calls Tryd.prog 13 args W fun e W' => ∃ v, e = .returned v ∧ Rows.lexBackSpec.post enc Tryd.prog Tryd.f13 false true false false W args v W' := by
  have hLaid : LaidC.L Tryd.prog W := by
    have h' : laidMet Tryd.prog Rows.lexBackUptoRow.laid W := hL
    rw [laid_eq] at h'
    exact LxTab.table h'
  have hsz := hsz0
  have hval := hval0
  have hW' := hW
  obtain ⟨p, q, hA0, hV, rfl, hfz, hnd⟩ := hW
  have hA : DataW.TrodAll enc Tryd.prog W 0 (fun _ => true) true Tryd.f13.params.toList args.toList ds p := hA0
  rw [Tryd.params13] at hA hval hsz
  obtain ⟨v0, vs0, d0, ds0, p0, q0, hargs, rfl, rfl, h0, r0⟩ := trodAll_cons hA
  obtain ⟨rfl, rfl, rfl⟩ := trodAll_nil r0
  obtain rfl : args = #[v0] := by cases args; simp_all
  obtain ⟨rfl, rfl⟩ := trodVars_none hV
  have hok : ∀ b, b < W.heap.size → (⟨fun b => b < W.heap.size, W.heap.size, fun _ => undef⟩ : Gh).ok b := fun b hb => ⟨hb, hb, fun n h => by simp [undef, blk] at h⟩
  have hb : Rows.uptoBulkAll [d0] ≤ 1048576 := of_decide_eq_true hk
  simp only [Rows.uptoBulkAll] at hb
  have hC0 : Rows.uptoBulk d0 ≤ 1048576 := by omega
  clear hb hk
  obtain ⟨x0, f0, e0⟩ := arg_slB (n := 2) (ob := fun _ => .none) hok bulk Tryd.underlying26 (by kernel_rfl) (by kernel_rfl) (hval 0 _ v0 rfl rfl) h0 hsz (j := 0) rfl rfl hC0
  have lt0 : ∀ x ∈ p0, x.block < W.heap.size := by obtain ⟨m, hm⟩ := h0; exact DataW.trod_lt m _ _ _ hm
  clear hA0 hval0 hsz0 hsz
  have key : Gw02_LexBack.g x0 = some true := law_back x0 (tok_small f0.2)
  have hrel : RelVs Tryd.prog ⟨fun b => b < W.heap.size, W.heap.size, fun _ => undef⟩ (fun _ => .none) W (envR Tryd.prog 0 Gw02_LexBack.pk x0) [v0] := by
    simp only [Gw02_LexBack.pk, envR, mkK, RelVs]
    exact ⟨e0, trivial⟩
  refine (Gw02_LexBack.spec x0 true key (fun b => b < W.heap.size) W _ hLaid hrel).mono fun e W' he => ?_
  obtain ⟨vs, η, rfl, bel, hr, -, -, -⟩ := he
  have hvs : vs = [.bool true] := by
    cases vs with
    | nil => simp only [Gw02_LexBack.rk, envR, RelVs] at hr
    | cons v r =>
      cases r with
      | nil =>
        simp only [Gw02_LexBack.rk, envR, mkK, RelVs, RelV] at hr
        rw [hr.1]
      | cons => simp only [Gw02_LexBack.rk, envR, RelVs, and_false] at hr
  subst hvs
  exact ⟨_, rfl, _, _, _, [], _, [], hW', trodAll_mk1 (shut_bool Tryd.underlying4 _), (trodAll_cons_mk (Below.trod laidOut (by kernel_rfl) (of_decide_eq_true (by kernel_rfl)) h0 bel lt0) trodAll_mk0), rfl, bel.frame _, fun h => by cases h⟩
theorem reads (os : Os) {H : Type} (enc : TypeId × Value → H) : ∃ places, DataW.whole enc Tryd.prog ((LxTab.laidWorld os).forCall (fun _ _ => 0) ⟨#[], #[.slice none 0 0], []⟩).memory Tryd.f13.params.toList Rows.lexBackSpec.vars false (#[.slice none 0 0] : Array Value).toList 8 = some ([.nil], [], places) :=
  ⟨[], by kernel_rfl⟩
set_option maxRecDepth 100000 in
theorem lifted (os : Os) (started : os.Started) (H : Type) (enc : TypeId × Value → H) (F : Stop.Interp) :
    ReturnsInHanded {} Tryd.checked os 13 .any ((Rows.OpenSpec.upto Rows.lexBackSpec).preRow enc Tryd.prog Tryd.f13 Rows.lexBackUptoRow.domain false Rows.lexBackUptoRow.laid) (((Rows.OpenSpec.upto Rows.lexBackSpec).at F).post enc Tryd.prog Tryd.f13 false true false false) := by
  obtain ⟨places, hx⟩ := reads os enc
  refine returnsInHanded_of_row (C := Tryd.checked) (s := Rows.OpenSpec.upto Rows.lexBackSpec) own started (by kernel_rfl) Tryd.func13
    (witness_row_atRef (enc := enc) (C := Tryd.checked) false (LxTab.laidWorld os) #[.slice none 0 0] rfl (by kernel_rfl) (by kernel_rfl) (by kernel_rfl)
      (OpenSpec.preRow_of_cond 8 hx (by kernel_rfl) (fun k hk => by cases hk; kernel_rfl) (by kernel_rfl) (by rw [laid_eq]; exact LxTab.laid_met os _))) ?_
  intro W base args ds gs before hval hW _ hcond hsz hL _ _
  exact contract H enc W base args ds gs before hval hW hsz hL (hcond _ rfl)
theorem said : Rows.LexBackUptoSaid :=
  OpenClaim.holds_of_cond 13 Tryd.f13 rfl rfl rfl rfl rfl rfl rfl ⟨rfl, rfl, rfl, rfl, rfl⟩ rfl rfl rfl rfl rfl (by kernel_rfl) Tryd.func13 (by kernel_rfl)
    (of_decide_eq_true (by kernel_rfl)) (by unfold Func.isWrapper; first | (rw [if_pos (by decide +kernel)]; kernel_rfl) | (rw [if_neg (by decide +kernel)]; exact ⟨rfl, rfl⟩))
    (fun os started H enc _ F => by rw [OpenClaim.pre_eq_preRow]; exact lifted os started H enc F)
theorem plain (f : FuncId) (fn : Func) (hf : Tryd.pinned.checked.prog.funcNamed "bluebell/bluebelllaw02.LexBack" = some f) (hfn : Tryd.pinned.checked.prog.funcs[f]? = some fn) :
    true = Tryd.pinned.checked.prog.looks [] ∧ ∀ (j : Nat) t, fn.params[j]? = some t → Tryd.pinned.checked.prog.wantsStandIn t = false := by
  obtain rfl : f = 13 := Option.some.inj ((show Tryd.prog.funcNamed "bluebell/bluebelllaw02.LexBack" = some 13 by kernel_rfl).symm.trans hf) |>.symm
  obtain rfl : fn = Tryd.f13 := (Option.some.inj (Tryd.func13.symm.trans hfn)).symm
  refine ⟨by kernel_rfl, fun j t ht => ?_⟩
  rw [Tryd.params13] at ht
  have hm : t = 26 := by simpa using Array.mem_of_getElem? ht
  subst hm
  exact (show Tryd.prog.wantsStandIn 26 = false by kernel_rfl)
theorem card : Rows.LexBackUptoCardSaid :=
  Claim7.holds_tied_plain_at .later [] _ _ _ _ said (fun _ h => by cases h) (by kernel_rfl) (fun _ h => by cases h) lexBackUpto_row_tie rfl ⟨rfl, rfl⟩ (by kernel_rfl) rfl plain (by kernel_rfl)
#print axioms card
end Go.Proofs.YtjlnbhdmbfofdaaDoor.lexBack
namespace Go.Proofs.YtjlnbhdmbfofdaaDoor
theorem lexBackUpto_holds : Rows.LexBackUptoCardSaid := lexBack.card
end Go.Proofs.YtjlnbhdmbfofdaaDoor
