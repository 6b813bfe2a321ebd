/- Arguments laid open: what came in reads as a value of its kind, and it is no greater than the row lets in. Over any program. -/
import Derived.Test.YtkmcanknbdaliaaQChecksW
import Derived.Deep.Slices
import Derived.Deep.Fields
import Derived.SizedLaws
import Derived.ChangeSame
namespace Go.Proofs.Ytkmcanknbdaliaa.Lx
open Go Go.RowKit Go.ChangeShapes Go.WideShapes Go.Deep Go.Proofs.YtkmcanknbdaliaaW.PrintWords
section
variable {H : Type} (enc : TypeId × Value → H) (P : Program) (w : World) (base : Nat) (spare : Nat → Bool) (held : Bool)
def Light (t : TypeId) (x : DataW H) : Prop := ∀ n ∈ x.weights P t, n ≤ 140737488351232
/-- What is laid out as type t reads as a value of this kind, and that is as said. -/
def Opens {α : Type} (t : TypeId) (d : Kd α) (ok : α → Prop) : Prop :=
 ∀ fuel cs x, DataW.trod enc P w base spare held fuel t cs = some x → Light P t x.1 → ∃ a, d.K w a cs ∧ ok a
variable {enc P w base spare held}
theorem opens_int {t : TypeId} {k : IntKind} (h : P.underlying t = some (.int k)) : Opens enc P w base spare held t (Kd.int k) (fun x => (Lit.int k x).wf = true) := by
 intro fuel cs x hx _
 obtain ⟨n, rfl, rfl, hw⟩ := DataW.trod_int h hx
 exact ⟨n, rfl, hw⟩
theorem opens_bool {t : TypeId} (h : P.underlying t = some .bool) : Opens enc P w base spare held t Kd.bool (fun _ => True) := by
 intro fuel cs x hx _
 obtain ⟨b, rfl, rfl⟩ := DataW.trod_bool h hx
 exact ⟨b, rfl, trivial⟩
theorem opens_string {t : TypeId} (h : P.underlying t = some .string) : Opens enc P w base spare held t Kd.string (fun s => s.size ≤ 140737488351232) := by
 intro fuel cs x hx hl
 obtain ⟨s, rfl, rfl, _⟩ := DataW.trod_string h hx
 refine ⟨s, rfl, ?_⟩
 have := hl s.data.toList.length (by simp [DataW.weights])
 rw [Array.length_toList] at this
 exact this
theorem opens_imp {α : Type} {t : TypeId} {d : Kd α} {ok ok' : α → Prop} (h : Opens enc P w base spare held t d ok) (hi : ∀ a, ok a → ok' a) : Opens enc P w base spare held t d ok' := by
 intro fuel cs x hx hl
 obtain ⟨a, h1, h2⟩ := h fuel cs x hx hl
 exact ⟨a, h1, hi a h2⟩
theorem opens_iso {α β : Type} {t : TypeId} {d : Kd α} {ok : α → Prop} (f : β → α) (g : α → β) (hg : ∀ a, f (g a) = a) (h : Opens enc P w base spare held t d ok) : Opens enc P w base spare held t (Kd.iso d f) (fun b => ok (f b)) := by
 intro fuel cs x hx hl
 obtain ⟨a, h1, h2⟩ := h fuel cs x hx hl
 exact ⟨g a, by show d.K w (f (g a)) cs; rw [hg]; exact h1, by show ok (f (g a)); rw [hg]; exact h2⟩
theorem choice_list {α : Type} (n : Nat) (Q : Nat → α → Prop) (h : ∀ i, i < n → ∃ a, Q i a) : ∃ xs : List α, xs.length = n ∧ ∀ j p, xs[j]? = some p → Q j p := by
 induction n with
 | zero => exact ⟨[], rfl, fun j p hp => by simp at hp⟩
 | succ n ih =>
  obtain ⟨xs, hl, hq⟩ := ih fun i hi => h i (by omega)
  obtain ⟨a, ha⟩ := h n (by omega)
  refine ⟨xs ++ [a], by simp [hl], fun j p hp => ?_⟩
  by_cases g : j < n
  ·rw [List.getElem?_append_left (by omega)] at hp
   exact hq j p hp
  ·have hj : j = n := by
    have := (List.getElem?_eq_some_iff.1 hp).1
    rw [List.length_append, List.length_singleton] at this
    omega
   subst hj
   rw [List.getElem?_append_right (by omega), hl] at hp
   simp at hp
   subst hp
   exact ha
theorem light_all {e : TypeId} : ∀ {ds : List (DataW H)} {d : DataW H}, d ∈ ds → ∀ n ∈ d.weights P e, n ∈ DataW.weightsAll P e ds
 | d0 :: ds, d, hd, n, hn => by
  unfold DataW.weightsAll
  rcases List.mem_cons.1 hd with rfl | h
  ·exact List.mem_append_left _ hn
  ·exact List.mem_append_right _ (light_all h n hn)
theorem opens_slice {α : Type} {t e : TypeId} {d : Kd α} {ok : α → Prop} {B : Nat} (h : P.underlying t = some (.slice e)) (hC : P.cellsOf e = d.sz) (hB : P.bytesOf e = B) (he : Opens enc P w base spare held e d ok) :
  Opens enc P w base spare held t (Kd.slice e d) (fun xs => xs.length * B ≤ 140737488351232 ∧ ∀ x ∈ xs, ok x) := by
 intro fuel cs x hx hl
 rcases open_slice h hx with ⟨rfl, rfl⟩ | ⟨a, len, cap, m, n, D, Pl, rfl, _, hlc, hcm, hm, rfl, hi⟩
 ·exact ⟨[], ⟨none, 0, rfl, by simp, Kd.C_nil _ _⟩, by simp, fun x hx => by cases hx⟩
 ·have hlm : len ≤ m := by
   rw [hm]
   split
   ·exact hlc
   ·exact Nat.le_refl _
  have hw : (m * B) ≤ 140737488351232 := by
   have := hl (((List.range len).map D).length + ((List.range (m - len)).map fun j => D (len + j)).length |>.mul (P.bytesOf e)) (by
    unfold DataW.weights
    rw [h]
    exact List.mem_cons_self ..)
   rw [List.length_map, List.length_map, List.length_range, List.length_range, show len + (m - len) = m by omega, hB] at this
   exact this
  obtain ⟨xs, hxl, hxs⟩ := choice_list len (fun i p => ∃ cs', w.cells? base (a.add (i * P.cellsOf e)) (P.cellsOf e) = some cs' ∧ d.K w p cs' ∧ ok p) (fun i hil => by
   obtain ⟨cs', h1, h2⟩ := hi i (by omega)
   obtain ⟨p, h3, h4⟩ := he n cs' _ h2 (fun q hq => hl q (by
    unfold DataW.weights
    rw [h]
    refine List.mem_cons_of_mem _ (List.mem_append_left _ (light_all (List.mem_map_of_mem (List.mem_range.2 hil)) q hq))))
   exact ⟨p, cs', h1, h3, h4⟩)
  refine ⟨xs, ⟨some a, cap, by rw [hxl], by omega, ⟨rfl, by unfold maxLen at hcm; omega, fun _ => ⟨a, rfl, fun j p hp => ?_⟩⟩⟩, ?_, fun y hy => ?_⟩
  ·obtain ⟨cs', h1, h2, _⟩ := hxs j p hp
   obtain ⟨_, hcl, hat⟩ := World.cells?_some h1
   refine ⟨cs', by rw [hcl, hC], h2, fun i u hu => ?_⟩
   have hil : i < P.cellsOf e := by
    have := (List.getElem?_eq_some_iff.1 hu).1
    omega
   rw [← hC, ← Go.Deep.add_add]
   exact (hat i hil).trans hu
  ·rw [hxl]
   exact Nat.le_trans (Nat.mul_le_mul_right _ hlm) hw
  ·obtain ⟨j, hj⟩ := List.mem_iff_getElem?.1 hy
   obtain ⟨_, _, _, h4⟩ := hxs j y hj
   exact h4
/-- The fields from one on. -/
def OpensF {α : Type} (enc : TypeId × Value → H) (P : Program) (w : World) (base : Nat) (spare : Nat → Bool) (held : Bool) (fs : List Field) (off : Nat) (d : Kd α) (ok : α → Prop) : Prop :=
 ∀ (fuel : Nat) (cs : List Value) (xs : List (DataW H × List MemPlace)), cs.length = off + d.sz → xs.length = fs.length →
  (∀ (i : Nat) (f : Field), fs[i]? = some f → DataW.trod enc P w base spare held fuel f.type ((cs.drop f.offset).take (P.cellsOf f.type)) = xs[i]?) →
  (∀ (i : Nat) (f : Field) (y : DataW H × List MemPlace), fs[i]? = some f → xs[i]? = some y → Light P f.type y.1) → ∃ a, d.K w a (cs.drop off) ∧ ok a
theorem opensF_one {α : Type} {f : Field} {off : Nat} {d : Kd α} {ok : α → Prop} (ho : f.offset = off) (hC : P.cellsOf f.type = d.sz) (h : Opens enc P w base spare held f.type d ok) : OpensF enc P w base spare held [f] off d ok := by
 intro fuel cs xs hl hx ht hw
 obtain ⟨y, rfl⟩ := List.length_eq_one_iff.1 hx
 have h1 := ht 0 f rfl
 rw [ho, hC, List.take_of_length_le (by rw [List.length_drop]; omega)] at h1
 exact h fuel _ y (h1.trans rfl) (hw 0 f y rfl rfl)
theorem opensF_cons {α β : Type} {f : Field} {fs : List Field} {off : Nat} {d : Kd α} {d' : Kd β} {ok : α → Prop} {ok' : β → Prop} (ho : f.offset = off) (hC : P.cellsOf f.type = d.sz) (h : Opens enc P w base spare held f.type d ok)
  (hs : OpensF enc P w base spare held fs (off + d.sz) d' ok') : OpensF enc P w base spare held (f :: fs) off (Kd.pair d d') (fun p => ok p.1 ∧ ok' p.2) := by
 intro fuel cs xs hl hx ht hw
 match xs, hx with
 | y :: ys, hx =>
  have hsz : (Kd.pair d d').sz = d.sz + d'.sz := rfl
  have h1 := ht 0 f rfl
  rw [ho, hC] at h1
  obtain ⟨a, k1, o1⟩ := h fuel _ y (h1.trans rfl) (hw 0 f y rfl rfl)
  obtain ⟨b, k2, o2⟩ := hs fuel cs ys (by omega) (by simpa using hx) (fun i g hg => (ht (i + 1) g (by simpa using hg)).trans (by simp)) (fun i g z hg hz => hw (i + 1) g z (by simpa using hg) (by simpa using hz))
  refine ⟨(a, b), ⟨_, _, ?_, k1, k2⟩, o1, o2⟩
  rw [← List.drop_drop]
  exact (List.take_append_drop _ _).symm
theorem opens_struct {α : Type} {t : TypeId} {fs : Array Field} {d : Kd α} {ok : α → Prop} (h : P.underlying t = some (.struct fs)) (hC : P.cellsOf t = d.sz) (hf : OpensF enc P w base spare held fs.toList 0 d ok) : Opens enc P w base spare held t d ok := by
 intro fuel cs x hx hl
 obtain ⟨xs, n, _, rfl, hcl, hxl, hg⟩ := DataW.trod_struct h hx
 have q := hf n cs xs (by omega) (by simpa using hxl) (fun i f hi => hg i f (by simpa using hi)) (fun i f y hi hy q hq => hl q (by
  unfold DataW.weights
  rw [h]
  exact DataW.weights_mem_each (j := i) (t := f.type) (by rw [List.getElem?_map, hi]; rfl) (by rw [List.getElem?_map, hy]; rfl) q hq))
 rw [List.drop_zero] at q
 exact q
/-- An argument. -/
theorem opens_arg {α : Type} {t : TypeId} {d : Kd α} {ok : α → Prop} (h : Opens enc P w base spare held t d ok) {v : Value} {x : DataW H} {p : List MemPlace} (hT : DataW.Trod enc P w base spare held t v x p)
  {ts : List TypeId} {ds : List (DataW H)} {j : Nat} (hsz : (DataW.weightsEach P ts ds).all (· ≤ reachBytes) = true) (ht : ts[j]? = some t) (hd : ds[j]? = some x) : ∃ a, d.K w a v.cells.toList ∧ ok a := by
 obtain ⟨fuel, hf⟩ := hT
 refine h fuel _ _ hf fun n hn => ?_
 have q := of_decide_eq_true (List.all_eq_true.1 hsz _ (DataW.weights_mem_each ht hd n hn))
 unfold reachBytes at q
 exact q
end
end Go.Proofs.Ytkmcanknbdaliaa.Lx
