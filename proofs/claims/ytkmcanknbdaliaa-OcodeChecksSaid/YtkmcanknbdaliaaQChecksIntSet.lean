/- Maps from integers to bools that a call has made: what a store and a look-up do, over any program. -/
import Derived.Maps.OwnOps
import Derived.Maps.OwnSet
import Derived.Maps.Views
import Derived.WalkKit
namespace Go.Proofs.Ytkmcanknbdaliaa.Lx
open Go Go.Maps Go.RowKit
/-- The datum of a set of integers. -/
def setI (l : List Int) : DataW Unit := l.foldl (fun D s => D.put (.int .i64 s) (.lit (.bool true))) (.map [])
theorem setI_snoc (l : List Int) (s : Int) : setI (l ++ [s]) = (setI l).put (.int .i64 s) (.lit (.bool true)) := by simp [setI, List.foldl_append]
theorem atI_fold (s : Int) (l : List Int) : ∀ (D : DataW Unit) (c : Bool), IsMap D → D.atKey (.int .i64 s) (.lit (.bool false)) = .lit (.bool c) →
  (l.foldl (fun D s => D.put (.int .i64 s) (.lit (.bool true))) D).atKey (.int .i64 s) (.lit (.bool false)) = .lit (.bool (c || l.any (fun x => x == s))) := by
 induction l with
 | nil => intro D c _ h; simpa using h
 | cons x l ih =>
  intro D c hm h
  rw [List.foldl_cons]
  by_cases hx : x = s
  ·rw [ih _ true (hm.put _ _) (by rw [hx]; exact atKey_put_same hm (by trivial) _ _)]
   rw [List.any_cons, show (x == s) = true from beq_iff_eq.2 hx, Bool.true_or]
   cases l.any (fun x => x == s) <;> cases c <;> rfl
  ·rw [ih _ c (hm.put _ _) (by rw [atKey_put_other (fun e => hx (by injection e with _ e; exact e.symm))]; exact h)]
   rw [List.any_cons, show (x == s) = false from beq_eq_false_iff_ne.2 hx, Bool.false_or]
theorem setI_at (l : List Int) (s : Int) : (setI l).atKey (.int .i64 s) (.lit (.bool false)) = .lit (.bool (l.any (fun x => x == s))) := by
 have h := atI_fold s l (.map []) false isMap_empty rfl
 simpa [setI] using h
/-- An element that reads as a bool's datum is that bool. -/
theorem plainElem_boolI {P : Program} {e : TypeId} (he : P.underlying e = some .bool) {v : Value} {z : DataW Unit × List MemPlace} (h : plainElem P e v = some z) : ∃ c, v = .bool c ∧ z = (.lit (.bool c), []) := by
 unfold plainElem at h
 rw [he] at h
 cases v <;> simp at h
 exact ⟨_, rfl, h.symm⟩
theorem look_boolI {P : Program} {w : World} {k e t : TypeId} {b n : Nat} {l : List Int} (h : w.ownsMap P k (plainElem P e) b n (setI l)) (K : Keyed P k) (ht : P.underlying t = some (.map k e)) (he : P.underlying e = some .bool) (hz : (zeroValue e).run P w = .ok (.bool false) w)
  {key : Value} {x : Int} (hkey : keyOf P k key = some (.int .i64 x)) : (Instr.lookup t (.map (some b)) key false).run P w = .ok (.bool (l.any (fun y => y == x))) w := by
 obtain ⟨v, ps, hrun, hv⟩ := h.lookup K ht hz (plainElem_bool he false) hkey
 obtain ⟨c, rfl, hc⟩ := plainElem_boolI he hv
 simp only [Prod.mk.injEq] at hc
 rw [setI_at] at hc
 rw [hrun]
 have := hc.1
 injection this with this
 injection this with this
 rw [this]
end Go.Proofs.Ytkmcanknbdaliaa.Lx
