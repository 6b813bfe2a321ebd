/- Maps from texts to bools that a call has made: what a store and a look-up do, over any program. -/
import Derived.Maps.OwnOps
import Derived.Maps.OwnSet
import Derived.Maps.Views
import Derived.WalkKit
namespace Go.Proofs.YtjlnbhdmbfofdaaDoor.Lx
open Go Go.Maps Go.RowKit
/-- The datum of a set of texts. -/
def setDat (l : List ByteArray) : DataW Unit := l.foldl (fun D s => D.put (.string s.data.toList) (.lit (.bool true))) (.map [])
theorem setDat_snoc (l : List ByteArray) (s : ByteArray) : setDat (l ++ [s]) = (setDat l).put (.string s.data.toList) (.lit (.bool true)) := by simp [setDat, List.foldl_append]
theorem isMap_fold (l : List ByteArray) : ∀ D : DataW Unit, IsMap D → IsMap (l.foldl (fun D s => D.put (.string s.data.toList) (.lit (.bool true))) D) := by
  induction l with
  | nil => exact fun D h => h
  | cons x l ih => exact fun D h => ih _ (h.put _ _)
theorem setDat_isMap (l : List ByteArray) : IsMap (setDat l) := isMap_fold l _ isMap_empty
theorem bytes_ext {a b : ByteArray} (h : a.data.toList = b.data.toList) : a = b := by
  cases a with | mk x => cases b with | mk y => exact congrArg ByteArray.mk (Array.toList_inj.1 h)
theorem atKey_fold (s : ByteArray) (l : List ByteArray) : ∀ (D : DataW Unit) (c : Bool), IsMap D → D.atKey (.string s.data.toList) (.lit (.bool false)) = .lit (.bool c) →
    (l.foldl (fun D s => D.put (.string s.data.toList) (.lit (.bool true))) D).atKey (.string s.data.toList) (.lit (.bool false)) = .lit (.bool (c || l.any (fun x => x.data.toList == s.data.toList))) := by
  induction l with
  | nil => intro D c _ h; simpa using h
  | cons x l ih =>
    intro D c hm h
    rw [List.foldl_cons]
    by_cases hx : x.data.toList = s.data.toList
    · rw [ih _ true (hm.put _ _) (by rw [hx]; exact atKey_put_same hm (by trivial) _ _)]
      rw [List.any_cons, show (x.data.toList == s.data.toList) = true from beq_iff_eq.2 hx, Bool.true_or]
      cases l.any (fun x => x.data.toList == s.data.toList) <;> cases c <;> rfl
    · rw [ih _ c (hm.put _ _) (by rw [atKey_put_other (fun e => hx (by injection e with e; exact e.symm))]; exact h)]
      rw [List.any_cons, show (x.data.toList == s.data.toList) = false from beq_eq_false_iff_ne.2 hx, Bool.false_or]
theorem setDat_at (l : List ByteArray) (s : ByteArray) : (setDat l).atKey (.string s.data.toList) (.lit (.bool false)) = .lit (.bool (l.any (fun x => x.data.toList == s.data.toList))) := by
  have h := atKey_fold s l (.map []) false isMap_empty rfl
  simpa [setDat] using h
/-- An element that reads as a bool's datum is that bool. -/
theorem plainElem_bool_inv {P : Program} {e : TypeId} (he : P.underlying e = some .bool) {v : Value} {z : DataW Unit × List MemPlace} (h : plainElem P e v = some z) : ∃ c, v = .bool c ∧ z = (.lit (.bool c), []) := by
  unfold plainElem at h
  rw [he] at h
  cases v <;> simp at h
  exact ⟨_, rfl, h.symm⟩
theorem look_bool {P : Program} {w : World} {k e t : TypeId} {b n : Nat} {D : DataW Unit} (h : w.ownsMap P k (plainElem P e) b n D) (K : Keyed P k) (ht : P.underlying t = some (.map k e)) (he : P.underlying e = some .bool) (hz : (zeroValue e).run P w = .ok (.bool false) w)
    {key : Value} {kl : Lit} (hkey : keyOf P k key = some kl) : ∃ c, (Instr.lookup t (.map (some b)) key false).run P w = .ok (.bool c) w ∧ D.atKey kl (.lit (.bool false)) = .lit (.bool c) := by
  obtain ⟨v, ps, hrun, hv⟩ := h.lookup K ht hz (plainElem_bool he false) hkey
  obtain ⟨c, rfl, hc⟩ := plainElem_bool_inv he hv
  simp only [Prod.mk.injEq] at hc
  exact ⟨c, hrun, hc.1⟩
end Go.Proofs.YtjlnbhdmbfofdaaDoor.Lx
