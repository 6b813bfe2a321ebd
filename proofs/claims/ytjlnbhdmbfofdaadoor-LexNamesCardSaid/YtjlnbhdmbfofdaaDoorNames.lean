/- The law on names: the lists are the reference's, and the reference calls the same texts names (plain part and walk). -/
import Derived.Test.YtjlnbhdmbfofdaaDoorIsName
namespace Go.Proofs.YtjlnbhdmbfofdaaDoor.Lx
open Go Go.Maps Go.RowKit Go.Proofs.YtjlnbhdmbfofdaaDoorW.PrintWords Go.Proofs.YtjlnbhdmbfofdaaDoorW.PrintLast Go.Proofs.YtjlnbhdmbfofdaaDoorW.PrintMore Go.Proofs.YtjlnbhdmbfofdaaDoor.PLexNames
theorem wrap_up {i : Nat} (h : (i : Int) < 9223372036854775807) : wrap64 ((i : Int) + 1) = ((i + 1 : Nat) : Int) := by
  unfold wrap64
  omega
theorem refSmall_f (c : Int) : bluebellref02_isSmall.f c = some (smallB c) := by
  unfold bluebellref02_isSmall.f smallB
  by_cases h : c ≥ 97
  · rw [if_pos h, decide_eq_true (show 97 ≤ c from h), Bool.true_and]
  · rw [if_neg h, decide_eq_false (show ¬ 97 ≤ c from h), Bool.false_and]
theorem refDigit_f (c : Int) : bluebellref02_isDigit.f c = some (decide (48 ≤ c) && decide (c ≤ 57)) := by
  unfold bluebellref02_isDigit.f
  by_cases h : c ≥ 48
  · rw [if_pos h, decide_eq_true (show 48 ≤ c from h), Bool.true_and]
  · rw [if_neg h, decide_eq_false (show ¬ 48 ≤ c from h), Bool.false_and]
theorem refPart_f (c : Int) : bluebellref02_isPart.f c = some (wordyB c) := by
  unfold bluebellref02_isPart.f wordyB
  rw [refSmall_f, Option.bind_some, refDigit_f]
  cases smallB c
  · rw [if_neg (by decide), Option.bind_some]
    cases (decide (48 ≤ c) && decide (c ≤ 57)) <;> simp
  · rw [if_pos rfl]; simp
theorem refKeys_f : bluebellref02_Keys.f = some keysL := rfl
theorem refSigns_f : bluebellref02_Signs.f = some signsL := rfl
/-- Is a text in a list, from a place on? -/
theorem refHas_l (l : List ByteArray) (s : ByteArray) (hl : l.length < 1000000) (d : Nat) : ∀ (k i : Nat), i + d = l.length → d < k →
    bluebellref02_has.l0 k l s (i : Int) = some ((l.drop i).any (fun x => x.data.toList == s.data.toList)) := by
  induction d with
  | zero =>
    intro k i hd hk
    obtain ⟨k, rfl⟩ : ∃ m, k = m + 1 := ⟨k - 1, by omega⟩
    simp only [bluebellref02_has.l0]
    rw [if_neg (by omega), List.drop_eq_nil_of_le (by omega)]
    rfl
  | succ d ih =>
    intro k i hd hk
    obtain ⟨k, rfl⟩ : ∃ m, k = m + 1 := ⟨k - 1, by omega⟩
    have hi : i < l.length := by omega
    simp only [bluebellref02_has.l0]
    rw [if_pos (by omega), if_pos (by omega), List.drop_eq_getElem_cons hi, List.any_cons]
    have e : rdOf ByteArray.empty l (i : Int) = l[i] := by
      simp [rdOf, List.getD_eq_getElem?_getD, List.getElem?_eq_getElem hi]
    rw [e, toList_data, toList_data]
    by_cases h : l[i].data.toList = s.data.toList
    · rw [if_pos h, show (l[i].data.toList == s.data.toList) = true from beq_iff_eq.2 h, Bool.true_or]
    · rw [if_neg h, show (l[i].data.toList == s.data.toList) = false from beq_eq_false_iff_ne.2 h, Bool.false_or, wrap_up (by omega)]
      exact ih k (i + 1) (by omega) (by omega)
theorem refName_l (s : ByteArray) (hs : s.size ≤ 24) (d : Nat) : ∀ (k i : Nat), i + d = s.size → d < k →
    bluebellref02_IsName.l0 k s (i : Int) = some ((List.range' i d).all (fun j => wordyB (bt s (j : Nat)))) := by
  induction d with
  | zero =>
    intro k i hd hk
    obtain ⟨k, rfl⟩ : ∃ m, k = m + 1 := ⟨k - 1, by omega⟩
    simp only [bluebellref02_IsName.l0]
    rw [if_neg (by omega)]
    rfl
  | succ d ih =>
    intro k i hd hk
    obtain ⟨k, rfl⟩ : ∃ m, k = m + 1 := ⟨k - 1, by omega⟩
    simp only [bluebellref02_IsName.l0]
    rw [if_pos (by omega), if_pos (by omega), refPart_f, Option.bind_some, List.range'_succ, List.all_cons]
    cases h : wordyB (bt s (i : Nat)) with
    | true => rw [if_pos rfl, wrap_up (by omega), ih k (i + 1) (by omega) (by omega), Bool.true_and]
    | false => rw [if_neg (by decide), Bool.false_and]
theorem refIsName_f (s : ByteArray) : bluebellref02_IsName.f 100 s = some (isNameB s) := by
  unfold bluebellref02_IsName.f isNameB
  have j0 : ∀ b, bluebellref02_IsName.j0 100 s b = if b = true then some false else bluebellref02_IsName.l0 99 s 0 := fun b => by
    show bluebellref02_IsName.j0 (99 + 1) s b = _
    rw [bluebellref02_IsName.j0]
  by_cases h0 : (s.size : Int) = 0
  · rw [if_pos h0, j0, if_pos rfl, decide_eq_false (by omega)]
    rfl
  · rw [if_neg h0]
    by_cases h1 : (s.size : Int) > 24
    · rw [if_pos h1, j0, if_pos rfl, decide_eq_false (show ¬ s.size ≤ 24 by omega), Bool.and_false]
      rfl
    · rw [if_neg h1, if_pos (by omega), refSmall_f, Option.bind_some, decide_eq_true (show 0 < s.size by omega), decide_eq_true (show s.size ≤ 24 by omega)]
      cases hb : smallB (bt s 0) with
      | false => rw [if_neg (by decide), j0, if_pos rfl]; rfl
      | true =>
        rw [if_pos rfl, refKeys_f, Option.bind_some]
        unfold bluebellref02_has.f
        have hk := refHas_l keysL s (by decide) 43 100 0 rfl (by omega)
        simp only [List.drop_zero] at hk
        rw [show ((0 : Int)) = ((0 : Nat) : Int) from rfl, hk, Option.bind_some, j0]
        have hl := refName_l s (by omega) s.size 99 0 (by omega) (by omega)
        rw [show ((0 : Int)) = ((0 : Nat) : Int) from rfl, hl, ← List.range_eq_range']
        cases keysL.any (fun x => x.data.toList == s.data.toList) with
        | true => rw [if_pos rfl]; simp
        | false => rw [if_neg (by decide)]; simp
theorem eqKeys_f : bluebelllaw02_eqStrings.f 100 keysL keysL = some true := by kernel_rfl
theorem eqSigns_f : bluebelllaw02_eqStrings.f 100 signsL signsL = some true := by kernel_rfl
theorem Keys_row (w : World) (hb : Blanks w) : Calls Tryd.prog 15 #[] w fun e w' => ∃ A c, e = .returned (.slice A keysL.length c) ∧ keysL.length ≤ c ∧ Kd.C Kd.string w' A keysL.length keysL ∧ Below w.heap.size w w' := by
  refine (Keys_calls w hb).mono ?_
  rintro e w' ⟨rfl, rfl⟩
  have h := Kd.R_reads' (row_of w keysL (by decide))
  exact ⟨_, _, rfl, h.2.1, h.2.2, below_alloc_self _ _⟩
theorem Signs_row (w : World) (hb : Blanks w) : Calls Tryd.prog 17 #[] w fun e w' => ∃ A c, e = .returned (.slice A signsL.length c) ∧ signsL.length ≤ c ∧ Kd.C Kd.string w' A signsL.length signsL ∧ Below w.heap.size w w' := by
  refine (Signs_calls w hb).mono ?_
  rintro e w' ⟨rfl, rfl⟩
  have h := Kd.R_reads' (row_of w signsL (by decide))
  exact ⟨_, _, rfl, h.2.1, h.2.2, below_alloc_self _ _⟩
theorem refKeys_row (w : World) : Calls Tryd.prog 16 #[] w fun e w' => ∃ A c, e = .returned (.slice A keysL.length c) ∧ keysL.length ≤ c ∧ Kd.C Kd.string w' A keysL.length keysL ∧ Below w.heap.size w w' := by
  refine (bluebellref02_Keys.calls _ w refKeys_f).mono ?_
  rintro e w' ⟨v, rfl, hR, hb⟩
  obtain ⟨A, c, rfl, hc, hC⟩ := Kd.R_reads hR
  exact ⟨_, _, rfl, hc, hC, hb⟩
theorem refSigns_row (w : World) : Calls Tryd.prog 18 #[] w fun e w' => ∃ A c, e = .returned (.slice A signsL.length c) ∧ signsL.length ≤ c ∧ Kd.C Kd.string w' A signsL.length signsL ∧ Below w.heap.size w w' := by
  refine (bluebellref02_Signs.calls _ w refSigns_f).mono ?_
  rintro e w' ⟨v, rfl, hR, hb⟩
  obtain ⟨A, c, rfl, hc, hC⟩ := Kd.R_reads hR
  exact ⟨_, _, rfl, hc, hC, hb⟩
set_option maxRecDepth 100000 in
theorem law_calls (s : ByteArray) (w : World) (hB : Blanks w) : Calls Tryd.prog 3 #[.string s] w (BoolPost w true) := by
  have HB := Lib.hid hB
  clear hB
  go_enter Tryd.func3, Tryd.ntmps3
  go_wp2_with fail
  refine (Keys_row _ HB.out).mono ?_
  rintro e w1 ⟨A1, c1, rfl, hc1, hC1, hb1⟩
  have HC1 := Lib.hid hC1
  have HL1 := Lib.hid hb1
  have Hc1 := Lib.hid hc1
  clear hC1 hb1 hc1
  go_wp2_with fail
  refine (refKeys_row _).mono ?_
  rintro e w2 ⟨A2, c2, rfl, hc2, hC2, hb2⟩
  have HC2 := Lib.hid hC2
  have HC12 := Lib.hid (Kd.C_below HC1.out hb2)
  have HL2 := Lib.hid (below_then HL1.out HL1.out.size hb2)
  have Hc2 := Lib.hid hc2
  clear hC2 hb2 hc2
  go_wp2_with fail
  refine (bluebelllaw02_eqStrings.calls 100 A1 c1 keysL A2 c2 keysL true _ HC12.out Hc1.out HC2.out Hc2.out eqKeys_f).mono ?_
  rintro e w3 ⟨rfl, hd3⟩
  have HL3 := Lib.hid (below_then HL2.out HL2.out.size hd3.below)
  clear hd3
  go_wp2_with fail
  refine (Signs_row _ (HB.out.below HL3.out)).mono ?_
  rintro e w4 ⟨A4, c4, rfl, hc4, hC4, hb4⟩
  have HC4 := Lib.hid hC4
  have HL4 := Lib.hid (below_then HL3.out HL3.out.size hb4)
  have Hc4 := Lib.hid hc4
  clear hC4 hb4 hc4
  go_wp2_with fail
  refine (refSigns_row _).mono ?_
  rintro e w5 ⟨A5, c5, rfl, hc5, hC5, hb5⟩
  have HC5 := Lib.hid hC5
  have HC45 := Lib.hid (Kd.C_below HC4.out hb5)
  have HL5 := Lib.hid (below_then HL4.out HL4.out.size hb5)
  have Hc5 := Lib.hid hc5
  clear hC5 hb5 hc5
  go_wp2_with fail
  refine (bluebelllaw02_eqStrings.calls 100 A4 c4 signsL A5 c5 signsL true _ HC45.out Hc4.out HC5.out Hc5.out eqSigns_f).mono ?_
  rintro e w6 ⟨rfl, hd6⟩
  have HL6 := Lib.hid (below_then HL5.out HL5.out.size hd6.below)
  clear hd6
  go_wp2_with fail
  refine (isName_calls s _ (HB.out.below HL6.out)).mono ?_
  rintro e w7 ⟨rfl, hb7⟩
  have HL7 := Lib.hid (below_then HL6.out HL6.out.size hb7)
  clear hb7
  go_wp2_with fail
  refine (bluebellref02_IsName.calls 100 s _ _ (refIsName_f s)).mono ?_
  rintro e w8 ⟨rfl, hb8⟩
  have HL8 := Lib.hid (below_then HL7.out HL7.out.size hb8)
  clear hb8
  go_wp2_with fail
  go_ret
  exact ⟨by simp, HL8.out⟩
end Go.Proofs.YtjlnbhdmbfofdaaDoor.Lx
