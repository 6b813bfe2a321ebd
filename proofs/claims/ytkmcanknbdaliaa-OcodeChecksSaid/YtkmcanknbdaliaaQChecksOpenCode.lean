/- An argument of type api.Code, laid open. -/
import Derived.Test.YtkmcanknbdaliaaQChecksFine
import Derived.Test.YtkmcanknbdaliaaQChecksOpen
import Derived.KernelRfl
namespace Go.Proofs.Ytkmcanknbdaliaa.Lx
open Go Go.RowKit Go.ChangeShapes Go.WideShapes Go.Proofs.YtkmcanknbdaliaaW.PrintWords Go.Proofs.YtkmcanknbdaliaaW.PrintLast Go.Proofs.YtkmcanknbdaliaaW.PrintMore Go.Proofs.Ytkmcanknbdaliaa.PO
theorem own : ownKnob Try.prog.godebug = none := by kernel_rfl
theorem laidOut : laidOutB Try.prog = true := by kernel_rfl
/-- Code as a kind of values. -/
def kCode : Kd Cod := Kd.iso (Kd.pair Kd.string (Kd.pair (Kd.slice 47 k47) (Kd.pair (Kd.slice 35 k35) (Kd.pair (Kd.slice 68 k68) (Kd.pair (Kd.int .i64) (Kd.int .i64)))))) (fun c : Cod => (c.name, c.data, c.ops, c.gl, c.procs, c.labels))
section
variable {H : Type} {enc : TypeId × Value → H} {w : World} {base : Nat} {spare : Nat → Bool} {held : Bool}
theorem opens_ints : Opens enc Try.prog w base spare held 29 (Kd.slice 3 (Kd.int .i64)) (fun xs => xs.length * 8 ≤ 140737488351232 ∧ ∀ x ∈ xs, (Lit.int .i64 x).wf = true) :=
 opens_slice Try.underlying29 (by kernel_rfl) (by kernel_rfl) (opens_int Try.underlying3)
theorem opens_data : Opens enc Try.prog w base spare held 47 k47 (fun d => d.f0.size ≤ 140737488351232 ∧ d.f2.length ≤ 140737488351232 ∧ ∀ x ∈ d.f2, (Lit.int .i64 x).wf = true) :=
 opens_imp (opens_iso (fun x : S47 => (x.f0, x.f1, x.f2)) (fun p => ⟨p.1, p.2.1, p.2.2⟩) (fun _ => rfl)
  (opens_struct Try.underlying47 (by kernel_rfl) (opensF_cons rfl (by kernel_rfl) (opens_string Try.underlying9) (opensF_cons rfl (by kernel_rfl) (opens_bool Try.underlying4) (opensF_one rfl (by kernel_rfl) opens_ints)))))
  fun d h => ⟨h.1, by have := h.2.2.1; simp only at this; omega, h.2.2.2⟩
theorem opens_op : Opens enc Try.prog w base spare held 35 k35 (fun o => (Lit.int .i64 o.f0).wf = true ∧ (Lit.int .i64 o.f1).wf = true ∧ (Lit.int .i64 o.f2).wf = true) :=
 opens_iso (fun x : S35 => (x.f0, x.f1, x.f2)) (fun p => ⟨p.1, p.2.1, p.2.2⟩) (fun _ => rfl)
  (opens_struct Try.underlying35 (by kernel_rfl) (opensF_cons rfl (by kernel_rfl) (opens_int Try.underlying3) (opensF_cons rfl (by kernel_rfl) (opens_int Try.underlying3) (opensF_one rfl (by kernel_rfl) (opens_int Try.underlying3)))))
theorem opens_entry : Opens enc Try.prog w base spare held 68 k68 (fun o => (Lit.int .i64 o.f0).wf = true ∧ (Lit.int .i64 o.f1).wf = true) :=
 opens_iso (fun x : S68 => (x.f0, x.f1)) (fun p => ⟨p.1, p.2⟩) (fun _ => rfl)
  (opens_struct Try.underlying68 (by kernel_rfl) (opensF_cons rfl (by kernel_rfl) (opens_int Try.underlying3) (opensF_one rfl (by kernel_rfl) (opens_int Try.underlying3))))
/-- What came in: whole numbers are such. -/
structure Whole (c : Cod) : Prop where
 d : ∀ d ∈ c.data, ∀ x ∈ d.f2, (Lit.int .i64 x).wf = true
 o : ∀ o ∈ c.ops, (Lit.int .i64 o.f0).wf = true ∧ (Lit.int .i64 o.f1).wf = true ∧ (Lit.int .i64 o.f2).wf = true
 g : ∀ o ∈ c.gl, (Lit.int .i64 o.f0).wf = true ∧ (Lit.int .i64 o.f1).wf = true
 p : (Lit.int .i64 c.procs).wf = true
 l : (Lit.int .i64 c.labels).wf = true
theorem opens_code : Opens enc Try.prog w base spare held 26 kCode (fun c => Wide c ∧ Whole c) :=
 opens_imp (opens_iso (fun c : Cod => (c.name, c.data, c.ops, c.gl, c.procs, c.labels)) (fun p => ⟨p.1, p.2.1, p.2.2.1, p.2.2.2.1, p.2.2.2.2.1, p.2.2.2.2.2⟩) (fun _ => rfl)
  (opens_struct Try.underlying26 (by kernel_rfl) (opensF_cons rfl (by kernel_rfl) (opens_string Try.underlying9) (opensF_cons rfl (by kernel_rfl) (opens_slice (B := 48) Try.underlying22 (by kernel_rfl) (by kernel_rfl) opens_data) (opensF_cons rfl (by kernel_rfl) (opens_slice (B := 24) Try.underlying23 (by kernel_rfl) (by kernel_rfl) opens_op) (opensF_cons rfl (by kernel_rfl) (opens_slice (B := 16) Try.underlying24 (by kernel_rfl) (by kernel_rfl) opens_entry)
   (opensF_cons rfl (by kernel_rfl) (opens_int Try.underlying3) (opensF_one rfl (by kernel_rfl) (opens_int Try.underlying3)))))))))
  fun c h => ⟨⟨h.1, by have := h.2.2.1.1; simp only at this; omega, by have := h.2.2.2.1.1; simp only at this; omega, by have := h.2.1.1; simp only at this; omega, fun d hd => ⟨(h.2.1.2 d hd).1, (h.2.1.2 d hd).2.1⟩⟩, ⟨fun d hd => (h.2.1.2 d hd).2.2, h.2.2.1.2, h.2.2.2.1.2, h.2.2.2.2.1, h.2.2.2.2.2⟩⟩
theorem kCode_K {c : Cod} {cs : List Value} (h : kCode.K w c cs) : ∃ a : Adr, cs = (codCells c a).toList ∧ CodAt w c a := by
 obtain ⟨_, _, rfl, rfl, ⟨_, _, rfl, ⟨A1, c1, rfl, l1, g1⟩, ⟨_, _, rfl, ⟨A2, c2, rfl, l2, g2⟩, ⟨_, _, rfl, ⟨A3, c3, rfl, l3, g3⟩, ⟨_, _, rfl, rfl, rfl⟩⟩⟩⟩⟩ := h
 exact ⟨⟨A1, c1, A2, c2, A3, c3⟩, rfl, ⟨g1, l1, g2, l2, g3, l3⟩⟩
/-- An argument that is code. -/
theorem open_code_ {cs : Array Value} {x : DataW H} {p : List MemPlace} (hT : DataW.Trod enc Try.prog w base spare held 26 (.agg cs) x p)
  {ts : List TypeId} {ds : List (DataW H)} {j : Nat} (hsz : (DataW.weightsEach Try.prog ts ds).all (· ≤ reachBytes) = true) (ht : ts[j]? = some 26) (hd : ds[j]? = some x) : ∃ c, kCode.K w c cs.toList ∧ Wide c ∧ Whole c :=
 opens_arg (v := .agg cs) opens_code hT hsz ht hd
set_option maxRecDepth 100000 in
theorem open_code {r : Reach} {b0 : Nat} {v : Value} {x : DataW H} {p : List MemPlace} (hv : Value.okWide Try.prog w r b0 26 v) (hT : DataW.Trod enc Try.prog w base spare held 26 v x p)
  {ts : List TypeId} {ds : List (DataW H)} {j : Nat} (hsz : (DataW.weightsEach Try.prog ts ds).all (· ≤ reachBytes) = true) (ht : ts[j]? = some 26) (hd : ds[j]? = some x) :
  ∃ (c : Cod) (a : Adr), v = .agg (codCells c a) ∧ CodAt w c a ∧ Wide c ∧ Whole c := by
 obtain ⟨cs, rfl, _⟩ := okWide_struct Try.underlying26 hv
 obtain ⟨c, hk, h1, h2⟩ := open_code_ hT hsz ht hd
 obtain ⟨a, e, hc⟩ := kCode_K hk
 refine ⟨c, a, ?_, hc, h1, h2⟩
 congr 1
 exact Array.toList_inj.1 e
end
end Go.Proofs.Ytkmcanknbdaliaa.Lx
