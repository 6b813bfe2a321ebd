/- The contract of lex.IsName: which texts are names. -/
import Derived.Test.YtjlnbhdmbfofdaaDoorKeyMap
import Derived.Test.YtjlnbhdmbfofdaaDoorPLexNamesx1
import Derived.Test.YtjlnbhdmbfofdaaDoorBytes
import Derived.Outline
namespace Go.Proofs.YtjlnbhdmbfofdaaDoor.Lx
open Go Go.Maps Go.RowKit Go.Proofs.YtjlnbhdmbfofdaaDoorW.PrintWords Go.Proofs.YtjlnbhdmbfofdaaDoorW.PrintLast Go.Proofs.YtjlnbhdmbfofdaaDoorW.PrintMore Go.Proofs.YtjlnbhdmbfofdaaDoor.PLexNames
def smallB (c : Int) : Bool := decide (97 ≤ c) && decide (c ≤ 122)
def wordyB (c : Int) : Bool := smallB c || (decide (48 ≤ c) && decide (c ≤ 57)) || c == 95
theorem small_f (c : Int) : lex_small.f c = some (smallB c) := by
  unfold lex_small.f smallB
  by_cases h : c ≥ 97
  · rw [if_pos h, decide_eq_true (show 97 ≤ c from h), Bool.true_and]
  · rw [if_neg h, decide_eq_false (show ¬ 97 ≤ c from h), Bool.false_and]
theorem digit_f (c : Int) : lex_digit.f c = some (decide (48 ≤ c) && decide (c ≤ 57)) := by
  unfold lex_digit.f
  by_cases h : c ≥ 48
  · rw [if_pos h, decide_eq_true (show 48 ≤ c from h), Bool.true_and]
  · rw [if_neg h, decide_eq_false (show ¬ 48 ≤ c from h), Bool.false_and]
theorem wordy_f (c : Int) : lex_wordy.f c = some (wordyB c) := by
  unfold lex_wordy.f wordyB
  rw [small_f, Option.bind_some, digit_f]
  cases smallB c
  · rw [if_neg (by decide), Option.bind_some]
    cases (decide (48 ≤ c) && decide (c ≤ 57)) <;> simp
  · rw [if_pos rfl]; simp
theorem small_calls (c : Int) (w : World) : Calls Tryd.prog 35 #[.int .u8 c] w fun e w' => e = .returned (.bool (smallB c)) ∧ Drawn0 w w' := lex_small.calls c _ w (small_f c)
theorem wordy_calls (c : Int) (w : World) : Calls Tryd.prog 36 #[.int .u8 c] w fun e w' => e = .returned (.bool (wordyB c)) ∧ Drawn0 w w' := lex_wordy.calls c _ w (wordy_f c)
def isNameB (s : ByteArray) : Bool := decide (0 < s.size) && decide (s.size ≤ 24) && smallB (bt s 0) && (List.range s.size).all (fun j => wordyB (bt s j)) && !keysL.any (fun x => x.data.toList == s.data.toList)
def BoolPost (w : World) (b : Bool) (e : Ending) (w' : World) : Prop := e = .returned (.bool b) ∧ Below w.heap.size w w'
set_option maxRecDepth 100000 in
theorem isName_empty (s : ByteArray) (w : World) (h : s.size = 0) : Calls Tryd.prog 19 #[.string s] w (BoolPost w false) := by
  have hl : s.toList = [] := (toList_nil s).2 h
  have hl2 : (!s.toList.isEmpty) = false := by rw [hl]; rfl
  clear h
  go_enter Tryd.func19, Tryd.ntmps19
  go_wp2_with fail
  go_ret
  exact ⟨rfl, Below.refl _ _⟩
set_option maxRecDepth 100000 in
theorem isName_long (s : ByteArray) (w : World) (h : 24 < s.size) : Calls Tryd.prog 19 #[.string s] w (BoolPost w false) := by
  go_enter Tryd.func19, Tryd.ntmps19
  go_wp2_with fail
  all_goals (go_ret; exact ⟨rfl, Below.refl _ _⟩)
set_option maxRecDepth 100000 in
theorem isName_other (s : ByteArray) (w : World) (h0 : 0 < s.size) (h : s.size ≤ 24) (hb : smallB (bt s 0) = false) : Calls Tryd.prog 19 #[.string s] w (BoolPost w false) := by
  have hl : ¬ s.toList = [] := fun e => by rw [toList_nil] at e; omega
  have hx : ∀ h : 0 < s.size, ((s[0]'h).toNat : Int) = bt s 0 := bt_at s 0
  have qi : ((0 : Int) < (s.size : Int)) = True := eq_true (by omega)
  have q : (0 < s.size) = True := eq_true h0
  go_enter Tryd.func19, Tryd.ntmps19
  go_wp2_with (go_at_call 35; refine (small_calls _ _).mono ?_; rintro e w' ⟨rfl, ⟨n, rfl⟩⟩)
  go_ret
  exact ⟨rfl, below_drewN (Below.refl _ _) _⟩
theorem range_all (f : Nat → Bool) (n k : Nat) (h : ∀ j, j < k → f j = true) (hk : k = n) : (List.range n).all f = true := by
  subst hk
  simpa using h
theorem isNameB_no (s : ByteArray) (k : Nat) (hk : k < s.size) (h : wordyB (bt s k) = false) : isNameB s = false := by
  have : (List.range s.size).all (fun j => wordyB (bt s j)) = false := by
    rw [Bool.eq_false_iff]
    intro ht
    have := List.all_eq_true.1 ht k (by simpa using hk)
    rw [h] at this
    cases this
  unfold isNameB
  rw [this, Bool.and_false, Bool.false_and]
theorem isNameB_yes (s : ByteArray) (h0 : 0 < s.size) (h : s.size ≤ 24) (hb : smallB (bt s 0) = true) (hw : ∀ j, j < s.size → wordyB (bt s (j : Nat)) = true) (c : Bool) (hc : keysL.any (fun x => x.data.toList == s.data.toList) = c) : isNameB s = !c := by
  unfold isNameB
  rw [hb, range_all _ _ _ hw rfl, decide_eq_true h0, decide_eq_true h, hc]
  rfl
set_option maxRecDepth 100000 in
theorem isName_loop (s : ByteArray) (w : World) (hB : Blanks w) (h0 : 0 < s.size) (h : s.size ≤ 24) (hb : smallB (bt s 0) = true) : Calls Tryd.prog 19 #[.string s] w (BoolPost w (isNameB s)) := by
  have hl : ¬ s.toList = [] := fun e => by rw [toList_nil] at e; omega
  have hx : ∀ h : 0 < s.size, ((s[0]'h).toNat : Int) = bt s 0 := bt_at s 0
  have qi : ((0 : Int) < (s.size : Int)) = True := eq_true (by omega)
  have q : (0 < s.size) = True := eq_true h0
  have he : s.toList.isEmpty = false := by simpa using hl
  have hd : decide ((24 : Int) < (s.size : Int)) = false := decide_eq_false (by omega)
  have HN := Lib.hid hB
  have HY := Lib.hid (isNameB_yes s h0 h hb)
  have HSZ := Lib.hid h
  clear hB
  go_enter Tryd.func19, Tryd.ntmps19
  go_wp2_with (go_at_call 35; refine (small_calls _ _).mono ?_; rintro e w' ⟨rfl, ⟨n, rfl⟩⟩)
  clear hb qi q hx hl he hd
  go_loopw [19] (fun i wr => ∃ k : Nat, k ≤ s.size ∧ i = .int .i64 k ∧ Hid (∀ j, j < k → wordyB (bt s (j : Nat)) = true) ∧ ∃ m, wr = w.drewN m) (fun i _ => s.size - (intOf i).toNat)
  case atStart => exact ⟨0, by omega, rfl, Lib.hid (fun j hj => absurd hj (by omega)), _, rfl⟩
  case round =>
    obtain ⟨k, hk, rfl, HA, m, rfl⟩ := hrel
    by_cases hlt : k < s.size
    · have hx : ∀ h : k < s.size, ((s[k]'h).toNat : Int) = bt s (k : Nat) := fun h => bt_at s (k : Nat) h
      cases hwb : wordyB (bt s (k : Nat)) with
      | true =>
        have HW := Lib.hid hwb
        go_wp2_with (go_at_call 36; refine (wordy_calls _ _).mono ?_; rintro e w' ⟨rfl, ⟨n, rfl⟩⟩)
        go_roundw
        case rel => exact ⟨k + 1, by omega, by go_num, Lib.hid (fun j hj => by
          rcases Nat.lt_or_ge j k with h1 | h1
          · exact HA.out j h1
          · obtain rfl : j = k := by omega
            exact HW.out), _, rfl⟩
        case measure => simp [intOf]; omega
      | false =>
        have HF := Lib.hid (isNameB_no s k hlt hwb)
        go_wp2_with (go_at_call 36; refine (wordy_calls _ _).mono ?_; rintro e w' ⟨rfl, ⟨n, rfl⟩⟩)
        rw [HF.out]
        go_ret
        exact ⟨rfl, below_drewN (Below.refl _ _) _⟩
    · obtain rfl : k = s.size := by omega
      go_wp2_with fail
      refine (keys_calls _ (HN.out.below (below_drewN (Below.refl _ _) _))).mono ?_
      rintro e w' ⟨B, rfl, hB, hown, hbel⟩
      have hbel' : Below w.heap.size w w' := ⟨hbel.os, hbel.tape, hbel.output, hbel.size, hbel.block⟩
      obtain ⟨c, hrun, hat⟩ := look_bool hown keyed9 Tryd.underlying45 Tryd.underlying4 (by rfl) (WideMaps.keyOf_string_mk Tryd.underlying9 (s := s) (by have := HSZ.out; unfold maxLen; omega))
      rw [setDat_at] at hat
      have hc : keysL.any (fun x => x.data.toList == s.data.toList) = c := by injection hat with hat; injection hat
      have HC := Lib.hid (HY.out HA.out c hc)
      have HL := Lib.hid hbel'
      clear hat hc hown hbel hbel' hB
      go_wp2_with fail
      rw [HC.out]
      go_ret
      exact ⟨rfl, HL.out⟩
theorem isName_calls (s : ByteArray) (w : World) (hB : Blanks w) : Calls Tryd.prog 19 #[.string s] w (BoolPost w (isNameB s)) := by
  by_cases h0 : s.size = 0
  · rw [show isNameB s = false by unfold isNameB; simp [h0]]
    exact isName_empty s w h0
  · by_cases h : s.size ≤ 24
    · cases hb : smallB (bt s 0) with
      | true => exact isName_loop s w hB (by omega) h hb
      | false =>
        rw [show isNameB s = false by unfold isNameB; simp [hb]]
        exact isName_other s w (by omega) h hb
    · rw [show isNameB s = false by unfold isNameB; simp [h]]
      exact isName_long s w (by omega)
end Go.Proofs.YtjlnbhdmbfofdaaDoor.Lx
