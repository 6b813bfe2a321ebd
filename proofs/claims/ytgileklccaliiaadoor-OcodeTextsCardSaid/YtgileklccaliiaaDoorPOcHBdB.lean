/- A contract of the library or of a function, by hand. -/
import Derived.Test.YtgileklccaliiaaDoorPOcHBdF
import Derived.Test.YtgileklccaliiaaDoorPOcHBdW
set_option linter.unusedVariables false
set_option linter.unusedSimpArgs false
set_option maxRecDepth 100000
namespace Go.Pv
open Go.Proofs Go.RowKit Go.Proofs.YtgileklccaliiaaDoor.Lx
def GBuilder_WriteByte.f (l : List D) (c : Int) : Option (Nat × List D) := bif Nat.ble (l.length + 1) 140737488355328 then some (0, l ++ [.i c]) else none
def GBuilder_WriteByte.pk : List FK := [.bd 43 (.own 5), .int .u8]
def GBuilder_WriteByte.rk : List FK := [.err, .bd 43 (.own 5)]
def GBuilder_WriteByte.g : Tp GBuilder_WriteByte.pk → Option (Tp GBuilder_WriteByte.rk) := fun x => GBuilder_WriteByte.f x.1 x.2
theorem GBuilder_WriteByte.spec : SpecIO Tryd.prog 14 GBuilder_WriteByte.pk [0] GBuilder_WriteByte.rk GBuilder_WriteByte.g := by
  intro x y hg A W w η vals hL hgs hv ho hinj hnew
  obtain ⟨l, c⟩ := x
  obtain ⟨p, q, rfl, hp, hq⟩ := vals2 hv
  obtain ⟨b, pv, cl, rfl, e1, hbd, hl, hE⟩ := open_bd hp ho hinj
  have hq' : q = .int .u8 c := hq
  subst hq'
  obtain ⟨hb, hy⟩ := cond_some (show GBuilder_WriteByte.f l c = some y from hg)
  obtain rfl := Option.some.inj hy
  have hb := Nat.le_of_ble_eq_true hb
  refine (WriteByte_bd c hbd (by rw [hl]; exact hb)).mono fun e w' he => ?_
  obtain ⟨rfl, v', hbd', hbel, hv'⟩ := he
  have hWb : W b := (hnew 1 b (by rw [e1]; rfl)).1
  have hW2 : ∀ k, blk (η 2) = some k → W k := fun k hk => (hnew 2 k hk).1
  have hone1 : Elems Tryd.prog w (⟨A, w.heap.size, η⟩ : Gh).ok 5 (fun k => ([Value.int .u8 c])[k]?) [.i c] := fun i hi => by
    have hi0 : i = 0 := by simp at hi; omega
    subst hi0
    refine ⟨fun h => (by rw [u8C2] at h; cases h), fun j hj => ?_⟩
    rw [u8C1] at hj ⊢
    obtain rfl : j = 0 := by omega
    rw [u8C2, u8C3]
    exact ⟨_, rfl, RepC.int .u8 c⟩
  have hE' : Elems Tryd.prog w (⟨A, w.heap.size, η⟩ : Gh).ok 5 (fun k => (cl ++ [Value.int .u8 c])[k]?) (l ++ [.i c]) := elems_append (by rw [hl, u8C1, Nat.mul_one]) hE hone1
  obtain ⟨r1, r2, r3, r4⟩ := close_bd (p := 2) (B := fun b => A b ∨ w.heap.size ≤ b) (W := W) (w := w) hbd' (by simp [hl]) hE' (.inr hWb) (fun k hk => (hv' k hk).1.symm.imp id (hW2 k)) (ηbd 2 b v') ηbd1 ηbd2 ηbd3
  refine ⟨[.nilIface], ηbd 2 b v', rfl, bw_sub hbel fun k hk => hk.elim (fun h => by rw [h]; exact hWb) (hW2 k), ?_, r1, r3, r4⟩
  show RelVs _ _ _ _ [V.er 0, V.ref 2 0] _
  simp only [List.map_cons, List.map_nil, List.cons_append, List.nil_append, RelVs]
  refine ⟨?_, ?_, trivial⟩
  · simp only [RelV]; exact ⟨fun _ => trivial, fun h => by omega, fun h => by omega⟩
  · exact r2
end Go.Pv
