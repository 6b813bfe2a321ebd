/- A contract of the library or of a function, by hand. -/
import Derived.Test.YtkmcanknbdaliaaPLaysB
import Derived.Test.YtkmcanknbdaliaaPLaysHQuote
set_option linter.unusedVariables false
set_option linter.unusedSimpArgs false
namespace Go.Pv
open Go.Proofs Go.Proofs.Ytkmcanknbdaliaa.Lx
/-- What lex.Quote answers. -/
def Glex_Quote.f (s : ByteArray) : Option (ByteArray × Int) := bif Nat.ble s.size 1000000000 then some (quoteR s) else none
def Glex_Quote.pk : List FK := [.str]
def Glex_Quote.rk : List FK := [.str, .int .i64]
def Glex_Quote.g : Tp Glex_Quote.pk → Option (Tp Glex_Quote.rk) := fun x => Glex_Quote.f x

theorem Glex_Quote.spec : Spec Try.prog 62 Glex_Quote.pk Glex_Quote.rk Glex_Quote.g := by
  intro s y hg A w vals hv
  have h1 : s.size ≤ 1000000000 ∧ quoteR s = y := by
    unfold Glex_Quote.g Glex_Quote.f at hg
    cases hb : Nat.ble s.size 1000000000 with
    | false => rw [hb] at hg; cases hg
    | true => rw [hb] at hg; exact ⟨Nat.le_of_ble_eq_true hb, Option.some.inj hg⟩
  obtain ⟨hs, rfl⟩ := h1
  have hvals : vals = [.string s] := by
    cases vals with
    | nil => simp only [Glex_Quote.pk, envR, RelVs] at hv
    | cons v r =>
      cases r with
      | nil =>
        simp only [Glex_Quote.pk, envR, mkK, RelVs, RelV] at hv
        rw [hv.1]
      | cons => simp only [Glex_Quote.pk, envR, RelVs, and_false] at hv
  subst hvals
  refine (Quote_calls s hs w).mono fun e w' he => ?_
  obtain ⟨rfl, hb⟩ := he
  refine ⟨[.string (quoteR s).1, .int .i64 (quoteR s).2], fun _ => undef, rfl, hb, ?_, fun n => ?_, fun n m b h => ?_, fun n b h => ?_⟩
  · simp only [Glex_Quote.rk, envR, mkK, RelVs, RelV]; exact ⟨trivial, trivial, trivial⟩
  · simp only [Glex_Quote.rk, obR, mkKO, mkOb, RelO, List.append_nil]
  · simp [undef, blk] at h
  · simp [undef, blk] at h
end Go.Pv
