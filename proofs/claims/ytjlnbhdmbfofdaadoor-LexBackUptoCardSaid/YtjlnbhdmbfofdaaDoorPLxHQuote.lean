/- A contract of the library or of a function, by hand. -/
import Derived.Test.YtjlnbhdmbfofdaaDoorPLxHBuilder
import Derived.Test.YtjlnbhdmbfofdaaDoorPLxHShelfA
import Derived.Test.YtjlnbhdmbfofdaaDoorPLxHBytes
import Derived.Laws.NewBlocks
set_option linter.unusedVariables false
set_option linter.unusedSimpArgs false
namespace Go.Proofs.YtjlnbhdmbfofdaaDoor.Lx
open Go Go.RowKit
def qByte (c : UInt8) : Option (List UInt8) :=
  if c = 10 then some [42, 110] else if c = 9 then some [42, 116] else if c = 42 then some [42, 42] else if c = 34 then some [42, 34] else if c < 32 ∨ 126 < c then none else some [c]
def quoteL : List UInt8 → Option (List UInt8)
  | [] => some []
  | c :: l => (qByte c).bind fun x => (quoteL l).map (x ++ ·)
/-- What Quote answers: the text and the error. -/
def quoteR (s : ByteArray) : ByteArray × Int :=
  match quoteL s.data.toList with
  | none => (⟨#[]⟩, 3)
  | some b => if s.size ≤ 100 then (⟨(34 :: b ++ [34]).toArray⟩, 0) else (⟨#[]⟩, 2)
theorem quoteL_append (a b : List UInt8) : quoteL (a ++ b) = (quoteL a).bind fun x => (quoteL b).map (x ++ ·) := by
  induction a with
  | nil => cases h : quoteL b <;> simp [quoteL, h]
  | cons c a ih =>
    simp only [List.cons_append, quoteL, ih]
    cases qByte c with
    | none => rfl
    | some x => cases quoteL a <;> cases quoteL b <;> simp
theorem quoteL_snoc (l : List UInt8) (c : UInt8) (b x : List UInt8) (h : quoteL l = some b) (hc : qByte c = some x) : quoteL (l ++ [c]) = some (b ++ x) := by
  rw [quoteL_append, h]
  simp [quoteL, hc]
theorem quoteL_bad (l l' : List UInt8) (c : UInt8) (hc : qByte c = none) : quoteL (l ++ c :: l') = none := by
  rw [quoteL_append]
  cases quoteL l <;> simp [quoteL, hc]
theorem qByte_len (c : UInt8) (x : List UInt8) (h : qByte c = some x) : x.length ≤ 2 := by
  unfold qByte at h
  repeat' split at h
  all_goals (cases h; try simp)
theorem quoteL_len (l b : List UInt8) (h : quoteL l = some b) : b.length ≤ 2 * l.length := by
  induction l generalizing b with
  | nil => cases h; simp
  | cons c l ih =>
    simp only [quoteL, Option.bind_eq_some_iff, Option.map_eq_some_iff] at h
    obtain ⟨x, hx, y, hy, rfl⟩ := h
    have := qByte_len c x hx
    have := ih y hy
    simp
    omega
def qIdx (c : UInt8) : Int := if c = 10 then 0 else if c = 9 then 1 else if c = 42 then 2 else if c = 34 then 3 else -1
theorem idx_eq : ∀ c : UInt8, Lib.indexByte [10, 9, 42, 34] c = qIdx c := by
  intro c
  have h : (List.range 256).all (fun n => Lib.indexByte [10, 9, 42, 34] n.toUInt8 == qIdx n.toUInt8) = true := by decide +kernel
  have := List.all_eq_true.1 h c.toNat (by simpa using c.toNat_lt)
  simpa using this
theorem idx_calls (c : UInt8) (j n : Int) (hj : qIdx c = j) (hn : n = c.toNat) (w : World) : Calls Tryd.prog 46 #[.string ⟨#[10, 9, 42, 34]⟩, .int .u8 n] w fun e w' => e = .returned (.int .i64 j) ∧ w' = w := by
  subst hn hj
  refine (Tryd.strings_IndexByte ⟨#[10, 9, 42, 34]⟩ _ w).mono ?_
  rintro e w' ⟨rfl, rfl⟩
  refine ⟨?_, rfl⟩
  rw [show ((c.toNat : Int).toNat.toUInt8) = c by simp, show (⟨#[10, 9, 42, 34]⟩ : ByteArray).data.toList = [10, 9, 42, 34] from rfl, idx_eq]
theorem cells_snoc (l : List UInt8) (x : UInt8) (n : Int) (hn : n = x.toNat) : Lib.byteCells l ++ [.int .u8 n] = Lib.byteCells (l ++ [x]) := by
  subst hn
  simp [Lib.byteCells]
theorem cells_len (l : List UInt8) : (Lib.byteCells l).length = l.length := by simp [Lib.byteCells]
/-- A byte is written to the builder of the call. -/
theorem put_calls (B b : Nat) (l : List UInt8) (x : UInt8) (n : Int) (hn : n = x.toNat) (w0 w : World) (h : Lib.IsBuilder 59 5 B b (Lib.byteCells l) w) (hlen : l.length < 140737488355328) (hB : Below B w0 w) (h0 : B ≤ w0.heap.size) :
    Calls Tryd.prog 45 #[.pointer (some ⟨b, 0, none⟩), .int .u8 n] w fun e w' => e = .returned .nilIface ∧ Lib.IsBuilder 59 5 B b (Lib.byteCells (l ++ [x])) w' ∧ Below B w0 w' := by
  refine (WriteByte_calls B b (Lib.byteCells l) n w h (by rw [cells_len]; omega) (Nat.le_trans h0 hB.size)).mono ?_
  rintro e w' ⟨rfl, h1, h2⟩
  rw [cells_snoc l x n hn] at h1
  exact ⟨rfl, .inr h1, hB.trans h2⟩
def StrErr (w : World) (r : ByteArray × Int) (e : Ending) (w' : World) : Prop := e = .returned (.tuple #[.string r.1, .int .i64 r.2]) ∧ Below w.heap.size w w'
theorem newBuilder (w : World) : Lib.IsBuilder 59 5 w.heap.size w.heap.size (Lib.byteCells []) (w.alloc (.cells #[.pointer none, .slice none 0 0] 59)) :=
  .inl ⟨Nat.le_refl _, .slice none 0 0, heap_alloc_new w _, ⟨by simp [Lib.byteCells], .inl ⟨rfl, rfl⟩⟩, by simp [Value.ownBlock]⟩
set_option maxRecDepth 100000 in
set_option maxHeartbeats 2000000 in
theorem Quote_calls (s : ByteArray) (hs : s.size ≤ 1000000000) (w : World) : Calls Tryd.prog 26 #[.string s] w (StrErr w (quoteR s)) := by
  have hz : s.data.toList.length = s.size := data_len s
  have HZ := Lib.hid hz
  clear hz
  go_enter Tryd.func26, Tryd.ntmps26
  go_wp2_with fail
  refine (put_calls w.heap.size w.heap.size [] 34 _ rfl w _ (newBuilder w) (by simp) ((Below.refl _ _).alloc (Nat.le_refl _) _) (Nat.le_refl _)).mono ?_
  rintro e w1 ⟨rfl, hI, hB⟩
  have HI := Lib.hid hI
  have HB := Lib.hid hB
  clear hI hB
  go_wp2_with fail
  go_loopw [11] (fun i wr => ∃ (k : Nat) (b : List UInt8), k ≤ s.size ∧ i = .int .i64 k ∧ Hid (quoteL (s.data.toList.take k) = some b) ∧ Hid (Lib.IsBuilder 59 5 w.heap.size w.heap.size (Lib.byteCells (34 :: b)) wr) ∧ Hid (Below w.heap.size w wr)) (fun i _ => s.size - (intOf i).toNat)
  case atStart => exact ⟨0, [], by omega, rfl, Lib.hid rfl, HI, HB⟩
  case round =>
    clear HI HB
    obtain ⟨k, b, hk, rfl, HQ, HI, HB⟩ := hrel
    have hbl := quoteL_len _ _ HQ.out
    rw [List.length_take, HZ.out] at hbl
    have HL : b.length ≤ 2000000000 := by omega
    clear hbl
    by_cases hlt : k < s.size
    · have hi : k < s.data.toList.length := by rw [HZ.out]; exact hlt
      obtain ⟨c, hc⟩ : ∃ c, c = s.data.toList[k] := ⟨_, rfl⟩
      have hx : ∀ h : k < s.size, ((s[k]'h).toNat : Int) = (c.toNat : Int) := fun h => by rw [hc]; rfl
      have HT : Hid (s.data.toList.take (k + 1) = s.data.toList.take k ++ [c]) := Lib.hid (by rw [List.take_succ_eq_append_getElem hi, hc])
      have HD : Hid (s.data.toList = s.data.toList.take k ++ c :: s.data.toList.drop (k + 1)) := Lib.hid (by rw [hc, ← List.drop_eq_getElem_cons hi, List.take_append_drop])
      clear hc hi
      by_cases h10 : c = 10
      · subst h10
        have HN := Lib.hid (quoteL_snoc _ _ _ [42, 110] HQ.out (show qByte 10 = some [42, 110] by decide))
        rw [← HT.out] at HN
        go_wp2_with fail
        refine (idx_calls 10 0 _ (by decide) rfl _).mono ?_
        rintro e w' ⟨rfl, rfl⟩
        go_wp2_with fail
        refine (put_calls _ _ (34 :: b) 42 _ rfl w _ HI.out (by simp; omega) HB.out (Nat.le_refl _)).mono ?_
        rintro e w2 ⟨rfl, hI, hB⟩
        have HI2 := Lib.hid hI
        have HB2 := Lib.hid hB
        clear hI hB
        go_wp2_with fail
        refine (put_calls _ _ (34 :: b ++ [42]) 110 _ rfl w _ HI2.out (by simp; omega) HB2.out (Nat.le_refl _)).mono ?_
        rintro e w3 ⟨rfl, hI, hB⟩
        have HI3 := Lib.hid hI
        have HB3 := Lib.hid hB
        clear hI hB HI HB HI2 HB2
        go_wp2_with fail
        go_roundw
        case rel => exact ⟨k + 1, b ++ [42, 110], by omega, by go_num, HN, by simpa using HI3, HB3⟩
        case measure => simp [intOf]; omega
      by_cases h9 : c = 9
      · subst h9
        have HN := Lib.hid (quoteL_snoc _ _ _ [42, 116] HQ.out (show qByte 9 = some [42, 116] by decide))
        rw [← HT.out] at HN
        go_wp2_with fail
        refine (idx_calls 9 1 _ (by decide) rfl _).mono ?_
        rintro e w' ⟨rfl, rfl⟩
        go_wp2_with fail
        refine (put_calls _ _ (34 :: b) 42 _ rfl w _ HI.out (by simp; omega) HB.out (Nat.le_refl _)).mono ?_
        rintro e w2 ⟨rfl, hI, hB⟩
        have HI2 := Lib.hid hI
        have HB2 := Lib.hid hB
        clear hI hB
        go_wp2_with fail
        refine (put_calls _ _ (34 :: b ++ [42]) 116 _ rfl w _ HI2.out (by simp; omega) HB2.out (Nat.le_refl _)).mono ?_
        rintro e w3 ⟨rfl, hI, hB⟩
        have HI3 := Lib.hid hI
        have HB3 := Lib.hid hB
        clear hI hB HI HB HI2 HB2
        go_wp2_with fail
        go_roundw
        case rel => exact ⟨k + 1, b ++ [42, 116], by omega, by go_num, HN, by simpa using HI3, HB3⟩
        case measure => simp [intOf]; omega
      by_cases h42 : c = 42
      · subst h42
        have HN := Lib.hid (quoteL_snoc _ _ _ [42, 42] HQ.out (show qByte 42 = some [42, 42] by decide))
        rw [← HT.out] at HN
        go_wp2_with fail
        refine (idx_calls 42 2 _ (by decide) rfl _).mono ?_
        rintro e w' ⟨rfl, rfl⟩
        go_wp2_with fail
        refine (put_calls _ _ (34 :: b) 42 _ rfl w _ HI.out (by simp; omega) HB.out (Nat.le_refl _)).mono ?_
        rintro e w2 ⟨rfl, hI, hB⟩
        have HI2 := Lib.hid hI
        have HB2 := Lib.hid hB
        clear hI hB
        go_wp2_with fail
        refine (put_calls _ _ (34 :: b ++ [42]) 42 _ rfl w _ HI2.out (by simp; omega) HB2.out (Nat.le_refl _)).mono ?_
        rintro e w3 ⟨rfl, hI, hB⟩
        have HI3 := Lib.hid hI
        have HB3 := Lib.hid hB
        clear hI hB HI HB HI2 HB2
        go_wp2_with fail
        go_roundw
        case rel => exact ⟨k + 1, b ++ [42, 42], by omega, by go_num, HN, by simpa using HI3, HB3⟩
        case measure => simp [intOf]; omega
      by_cases h34 : c = 34
      · subst h34
        have HN := Lib.hid (quoteL_snoc _ _ _ [42, 34] HQ.out (show qByte 34 = some [42, 34] by decide))
        rw [← HT.out] at HN
        go_wp2_with fail
        refine (idx_calls 34 3 _ (by decide) rfl _).mono ?_
        rintro e w' ⟨rfl, rfl⟩
        go_wp2_with fail
        refine (put_calls _ _ (34 :: b) 42 _ rfl w _ HI.out (by simp; omega) HB.out (Nat.le_refl _)).mono ?_
        rintro e w2 ⟨rfl, hI, hB⟩
        have HI2 := Lib.hid hI
        have HB2 := Lib.hid hB
        clear hI hB
        go_wp2_with fail
        refine (put_calls _ _ (34 :: b ++ [42]) 34 _ rfl w _ HI2.out (by simp; omega) HB2.out (Nat.le_refl _)).mono ?_
        rintro e w3 ⟨rfl, hI, hB⟩
        have HI3 := Lib.hid hI
        have HB3 := Lib.hid hB
        clear hI hB HI HB HI2 HB2
        go_wp2_with fail
        go_roundw
        case rel => exact ⟨k + 1, b ++ [42, 34], by omega, by go_num, HN, by simpa using HI3, HB3⟩
        case measure => simp [intOf]; omega
      by_cases hbad : c < 32 ∨ 126 < c
      · have hq : qByte c = none := by unfold qByte; rw [if_neg h10, if_neg h9, if_neg h42, if_neg h34, if_pos hbad]
        have hid : qIdx c = -1 := by unfold qIdx; rw [if_neg h10, if_neg h9, if_neg h42, if_neg h34]
        have HR : Hid (quoteR s = (⟨#[]⟩, 3)) := Lib.hid (by unfold quoteR; rw [HD.out, quoteL_bad _ _ _ hq])
        have HJ := Lib.hid hid
        have hb : (c.toNat : Int) < 32 ∨ 126 < (c.toNat : Int) := by
          rcases hbad with h | h
          · left; have := UInt8.lt_iff_toNat_lt.1 h; simp at this; omega
          · right; have := UInt8.lt_iff_toNat_lt.1 h; simp at this; omega
        clear hq hid hbad h10 h9 h42 h34
        rw [HR.out]
        go_wp2_with (go_at_call 46; refine (idx_calls c (-1) _ HJ.out rfl _).mono ?_; rintro e w' ⟨rfl, rfl⟩)
        all_goals (go_ret2; exact ⟨rfl, HB.out⟩)
      · have hq : qByte c = some [c] := by unfold qByte; rw [if_neg h10, if_neg h9, if_neg h42, if_neg h34, if_neg hbad]
        have hid : qIdx c = -1 := by unfold qIdx; rw [if_neg h10, if_neg h9, if_neg h42, if_neg h34]
        have HN := Lib.hid (quoteL_snoc _ _ _ [c] HQ.out hq)
        rw [← HT.out] at HN
        have HJ := Lib.hid hid
        have hlo : 32 ≤ (c.toNat : Int) := by
          have h : ¬ c < 32 := fun h => hbad (.inl h)
          rw [UInt8.lt_iff_toNat_lt] at h
          simp at h
          omega
        have hhi : (c.toNat : Int) ≤ 126 := by
          have h : ¬ 126 < c := fun h => hbad (.inr h)
          rw [UInt8.lt_iff_toNat_lt] at h
          simp at h
          omega
        clear hq hid hbad h10 h9 h42 h34
        go_wp2_with (go_at_call 46; refine (idx_calls c (-1) _ HJ.out rfl _).mono ?_; rintro e w' ⟨rfl, rfl⟩)
        refine (put_calls _ _ (34 :: b) c _ rfl w _ HI.out (by simp; omega) HB.out (Nat.le_refl _)).mono ?_
        rintro e w2 ⟨rfl, hI, hB⟩
        have HI2 := Lib.hid hI
        have HB2 := Lib.hid hB
        clear hI hB HI HB
        go_wp2_with fail
        go_roundw
        case rel => exact ⟨k + 1, b ++ [c], by omega, by go_num, HN, by simpa using HI2, HB2⟩
        case measure => simp [intOf]; omega
    · obtain rfl : k = s.size := by omega
      have ht : s.data.toList.take s.size = s.data.toList := List.take_of_length_le (by rw [HZ.out]; exact Nat.le_refl _)
      rw [ht] at HQ
      clear ht hlt hk
      by_cases h100 : s.size ≤ 100
      · have HR : Hid (quoteR s = (⟨(34 :: b ++ [34]).toArray⟩, 0)) := Lib.hid (by unfold quoteR; rw [HQ.out]; simp only [if_pos h100])
        go_wp2_with fail
        refine (put_calls _ _ (34 :: b) 34 _ rfl w _ HI.out (by simp; omega) HB.out (Nat.le_refl _)).mono ?_
        rintro e w2 ⟨rfl, hI, hB⟩
        have HI2 := Lib.hid hI
        have HB2 := Lib.hid hB
        clear hI hB HI HB
        go_wp2_with fail
        refine (Tryd.Builder_String_any _ _ (34 :: b ++ [34]) _ HI2.out HB2.out.size).mono ?_
        rintro e w3 ⟨rfl, hB⟩
        have HB3 := Lib.hid (HB2.out.trans hB)
        clear hB
        go_wp2_with fail
        go_ret2
        exact ⟨by rw [HR.out]; rfl, HB3.out⟩
      · have HR : Hid (quoteR s = (⟨#[]⟩, 2)) := Lib.hid (by unfold quoteR; rw [HQ.out]; simp only [if_neg h100])
        go_wp2_with fail
        go_ret2
        exact ⟨by rw [HR.out]; rfl, HB.out⟩
end Go.Proofs.YtjlnbhdmbfofdaaDoor.Lx
