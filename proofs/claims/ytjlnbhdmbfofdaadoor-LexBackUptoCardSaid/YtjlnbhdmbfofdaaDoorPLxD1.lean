/- What the functions answer, in plain words: the plain laws. -/
import Derived.Test.YtjlnbhdmbfofdaaDoorPLxF1
import Derived.Lib.IndexLaws
set_option linter.unusedVariables false
set_option linter.unusedSimpArgs false
namespace Go.Lx
def smU (c : UInt8) : Bool := decide (97 ≤ c.toNat) && decide (c.toNat ≤ 122)
def dgU (c : UInt8) : Bool := decide (48 ≤ c.toNat) && decide (c.toNat ≤ 57)
def wdU (c : UInt8) : Bool := smU c || dgU c || c.toNat == 95
def hxU (c : UInt8) : Bool := dgU c || (decide (97 ≤ c.toNat) && decide (c.toNat ≤ 102)) || (decide (65 ≤ c.toNat) && decide (c.toNat ≤ 70))
def blU (c : UInt8) : Bool := c.toNat == 32 || (c.toNat == 9 || c.toNat == 10)
/-- The value of a digit. -/
def dvU (c : UInt8) : Nat := if c.toNat ≤ 57 then c.toNat - 48 else if c.toNat ≤ 70 then c.toNat - 55 else c.toNat - 87
def numU (b : Nat) (l : List UInt8) : Nat := l.foldl (fun n c => n * b + dvU c) 0
def slashed : List UInt8 → Bool
  | c :: _ => c.toNat == 47
  | [] => false
/-- What is left behind blanks and comments; in a comment: b. -/
def skipA : Bool → List UInt8 → List UInt8
  | _, [] => []
  | true, c :: r => bif c.toNat == 10 then skipA false r else skipA true r
  | false, c :: r => bif blU c then skipA false r else bif c.toNat == 47 && slashed r then skipA true r else c :: r
/-- A byte behind the mark of an escape. -/
def escU (c : UInt8) : Option UInt8 :=
  if c.toNat = 110 then some 10 else if c.toNat = 116 then some 9 else if c.toNat = 115 then some 32 else if c.toNat = 42 then some 42 else if c.toNat = 39 then some 39 else if c.toNat = 34 then some 34 else none
/-- A byte of a character or string that ends with q, and how many bytes it takes. -/
def charL (q : Nat) : List UInt8 → Option (UInt8 × Nat)
  | [] => none
  | c :: r => if c.toNat < 32 ∨ 126 < c.toNat ∨ c.toNat = q then none else if c.toNat = 42 then (match r with | [] => none | e :: _ => (escU e).map fun x => (x, 2)) else some (c, 1)
/-- The bytes of a string behind its quote, and how many bytes they take with the quote at their end. -/
def textL : List UInt8 → Option (List UInt8 × Nat)
  | [] => none
  | c :: r => if c.toNat = 34 then some ([], 1) else if c.toNat < 32 ∨ 126 < c.toNat then none else
      if c.toNat = 42 then (match r with | [] => none | e :: r' => match escU e, textL r' with | some x, some (xs, n) => some (x :: xs, n + 2) | _, _ => none)
      else match textL r with | some (xs, n) => some (c :: xs, n + 1) | none => none
def keysU : List (List UInt8) := [[97, 110, 100], [98, 101], [98, 114, 101, 97, 107], [98, 121], [99, 97, 115, 101], [100, 101, 102, 97, 117, 108, 116], [100, 111], [101, 108, 115, 101], [101, 110, 100, 99, 97, 115, 101], [101, 113, 118], [102, 97, 108, 115, 101], [102, 105, 110, 105, 115, 104], [102, 111, 114], [103, 108, 111, 98, 97, 108], [103, 111, 116, 111], [105, 102], [105, 110, 116, 111], [108, 101, 116], [108, 111, 111, 112], [109, 97, 110, 105, 102, 101, 115, 116], [111, 102], [111, 114], [114, 101, 109], [114, 101, 112, 101, 97, 116], [114, 101, 112, 101, 97, 116, 117, 110, 116, 105, 108], [114, 101, 112, 101, 97, 116, 119, 104, 105, 108, 101], [114, 101, 115, 117, 108, 116, 105, 115], [114, 101, 116, 117, 114, 110], [115, 101, 99, 116, 105, 111, 110], [115, 108, 99, 116], [115, 116, 97, 116, 105, 99], [115, 119, 105, 116, 99, 104, 111, 110], [116, 97, 98, 108, 101], [116, 101, 115, 116], [116, 104, 101, 110], [116, 111], [116, 114, 117, 101], [117, 110, 108, 101, 115, 115], [117, 110, 116, 105, 108], [118, 97, 108, 111, 102], [118, 101, 99], [119, 104, 105, 108, 101], [120, 111, 114]]
def signsU : List (List UInt8) := [[40], [41], [123], [125], [44], [59], [58], [33], [37], [64], [43], [45], [42], [47], [38], [124], [126], [63], [61], [126, 61], [60], [60, 61], [62], [62, 61], [60, 60], [62, 62], [58, 61], [45, 62]]
/-- The longest sign that a text begins with. -/
def signL (l : List UInt8) : List UInt8 := signsU.foldl (fun b g => if b.length < g.length ∧ g.isPrefixOf l = true then g else b) []
structure Tk where
  kind : Int
  s : List UInt8
  n : Int

/-- A number of the base 16 as a word. -/
def wordU (v : Nat) : Int := if 2147483648 ≤ v then (v : Int) - 4294967296 else v
/-- The token that a text begins with, and how many bytes it takes, or the error. -/
def tokL : List UInt8 → Except Int (Tk × Nat)
  | [] => .error 20
  | c :: r =>
    if smU c then
      if 24 < ((c :: r).takeWhile wdU).length then .error 2
      else .ok (⟨if keysU.contains ((c :: r).takeWhile wdU) then 4 else 1, (c :: r).takeWhile wdU, 0⟩, ((c :: r).takeWhile wdU).length)
    else if dgU c then
      if 2147483647 < numU 10 ((c :: r).takeWhile dgU) then .error 22 else .ok (⟨2, [], numU 10 ((c :: r).takeWhile dgU)⟩, ((c :: r).takeWhile dgU).length)
    else if c.toNat = 35 then
      if r.takeWhile hxU = [] then .error 20
      else if 4294967295 < numU 16 (r.takeWhile hxU) then .error 22 else .ok (⟨2, [], wordU (numU 16 (r.takeWhile hxU))⟩, (r.takeWhile hxU).length + 1)
    else if c.toNat = 39 then
      match charL 39 r with
      | none => .error 21
      | some (x, n) => match r.drop n with
        | [] => .error 21
        | q :: _ => if q.toNat = 39 then .ok (⟨2, [], x.toNat⟩, n + 2) else .error 21
    else if c.toNat = 34 then
      match textL r with
      | none => .error 21
      | some (xs, n) => if 100 < xs.length then .error 2 else .ok (⟨3, xs, 0⟩, n + 1)
    else if signL (c :: r) = [] then .error 20 else .ok (⟨5, signL (c :: r), 0⟩, (signL (c :: r)).length)
/-- Tokens with their places, up to the end (none) or to the first error; k bounds the rounds, E is the place of the end. -/
structure Raw where
  toks : List (Tk × Nat)
  err : Option Int
  p : Nat

def rawF : Nat → List UInt8 → Nat → Raw
  | 0, _, E => ⟨[], none, E⟩
  | k + 1, l, E => match skipA false l with
    | [] => ⟨[], none, E⟩
    | c :: r => match tokL (c :: r) with
      | .error e => ⟨[], some e, E - (r.length + 1)⟩
      | .ok (t, n) => ⟨(t, E - (r.length + 1)) :: (rawF k ((c :: r).drop n) E).toks, (rawF k ((c :: r).drop n) E).err, (rawF k ((c :: r).drop n) E).p⟩
def rawL (l : List UInt8) : Raw := rawF (l.length + 1) l l.length
/-- Tokens, the end among them, or the error and its place. -/
def limL (q : Raw) : Except (Int × Nat) (List (Tk × Nat)) :=
  match q.toks.drop 20000 with
  | (_, p) :: _ => .error (2, p)
  | [] => match q.err with
    | some e => .error (e, q.p)
    | none => if q.toks.length = 20000 then .error (2, q.p) else .ok (q.toks ++ [(⟨0, [], 0⟩, q.p)])
def scanL (l : List UInt8) : Except (Int × Nat) (List (Tk × Nat)) := if 40000 < l.length then .error (2, 0) else limL (rawL l)
end Go.Lx

namespace Go.Lx
theorem take_takeWhile (p : UInt8 → Bool) : ∀ (l : List UInt8) (m : Nat), (l.takeWhile p).length ≤ m → (l.take m).takeWhile p = l.takeWhile p
  | [], m, _ => by simp
  | c :: r, 0, h => by
    cases hp : p c with
    | true => simp [List.takeWhile_cons, hp] at h
    | false => simp [List.takeWhile_cons, hp]
  | c :: r, m + 1, h => by
    cases hp : p c with
    | true =>
      simp only [List.takeWhile_cons, hp, if_true, List.length_cons, List.take_succ_cons] at h ⊢
      rw [take_takeWhile p r m (by omega)]
    | false => simp [List.takeWhile_cons, hp]
theorem app_takeWhile (p : UInt8 → Bool) (c : UInt8) (y : List UInt8) (hc : p c = false) : ∀ (l : List UInt8), (l ++ c :: y).takeWhile p = l.takeWhile p
  | [] => by simp [List.takeWhile_cons, hc]
  | x :: r => by
    rw [List.cons_append]
    cases hp : p x with
    | true => simp only [List.takeWhile_cons, hp, if_true, app_takeWhile p c y hc r]
    | false => simp [List.takeWhile_cons, hp]
theorem takeWhile_le (p : UInt8 → Bool) (l : List UInt8) : (l.takeWhile p).length ≤ l.length := (List.takeWhile_prefix p).length_le
/-- Of a sign only two bytes are looked at. -/
theorem sign_two (l m : List UInt8) (h : l.take 2 = m.take 2) : signL l = signL m := by
  have key : ∀ g : List UInt8, g.length ≤ 2 → g.isPrefixOf l = g.isPrefixOf m := by
    intro g hg
    have e : ∀ l : List UInt8, g.isPrefixOf l = g.isPrefixOf (l.take 2) := by
      intro l
      match g, hg, l with
      | [], _, _ => simp [List.isPrefixOf]
      | [a], _, [] => rfl
      | [a], _, x :: r => simp [List.isPrefixOf]
      | [a, b], _, [] => rfl
      | [a, b], _, [x] => rfl
      | [a, b], _, x :: y :: r => simp [List.isPrefixOf]
    rw [e l, e m, h]
  have hs : ∀ g ∈ signsU, g.length ≤ 2 := by decide
  unfold signL
  have : ∀ (gs : List (List UInt8)), (∀ g ∈ gs, g.length ≤ 2) → ∀ b, gs.foldl (fun b g => if b.length < g.length ∧ g.isPrefixOf l = true then g else b) b = gs.foldl (fun b g => if b.length < g.length ∧ g.isPrefixOf m = true then g else b) b := by
    intro gs
    induction gs with
    | nil => intro _ b; rfl
    | cons g gs ih =>
      intro hg b
      simp only [List.foldl_cons]
      rw [key g (hg g (List.mem_cons_self ..)), ih fun g' h' => hg g' (List.mem_cons_of_mem _ h')]
  exact this signsU hs []
/-- The longest sign is a sign that the text begins with, or none. -/
theorem sign_ok (l : List UInt8) : signL l = [] ∨ (signL l ∈ signsU ∧ (signL l).isPrefixOf l = true) := by
  unfold signL
  have : ∀ (gs : List (List UInt8)) (b : List UInt8), (∀ g ∈ gs, g ∈ signsU) → (b = [] ∨ (b ∈ signsU ∧ b.isPrefixOf l = true)) → (gs.foldl (fun b g => if b.length < g.length ∧ g.isPrefixOf l = true then g else b) b = [] ∨ (gs.foldl (fun b g => if b.length < g.length ∧ g.isPrefixOf l = true then g else b) b ∈ signsU ∧ (gs.foldl (fun b g => if b.length < g.length ∧ g.isPrefixOf l = true then g else b) b).isPrefixOf l = true)) := by
    intro gs
    induction gs with
    | nil => intro b _ h; exact h
    | cons g gs ih =>
      intro b hg h
      simp only [List.foldl_cons]
      refine ih _ (fun g' h' => hg g' (List.mem_cons_of_mem _ h')) ?_
      split
      · rename_i hc
        exact .inr ⟨hg g (List.mem_cons_self ..), hc.2⟩
      · exact h
  exact this signsU [] (fun g h => h) (.inl rfl)
/-- A sign that the text begins with is no longer than the longest one. -/
theorem sign_max (l g : List UInt8) (hg : g ∈ signsU) (hp : g.isPrefixOf l = true) : g.length ≤ (signL l).length := by
  unfold signL
  have mono : ∀ (gs : List (List UInt8)) (b : List UInt8), b.length ≤ (gs.foldl (fun b g => if b.length < g.length ∧ g.isPrefixOf l = true then g else b) b).length := by
    intro gs
    induction gs with
    | nil => intro b; exact Nat.le_refl _
    | cons g gs ih =>
      intro b
      simp only [List.foldl_cons]
      refine Nat.le_trans ?_ (ih _)
      split <;> omega
  have : ∀ (gs : List (List UInt8)) (b : List UInt8), g ∈ gs → g.length ≤ (gs.foldl (fun b g => if b.length < g.length ∧ g.isPrefixOf l = true then g else b) b).length := by
    intro gs
    induction gs with
    | nil => intro b h; cases h
    | cons g' gs ih =>
      intro b h
      simp only [List.foldl_cons]
      rcases List.mem_cons.1 h with rfl | h
      · refine Nat.le_trans ?_ (mono gs _)
        split
        · exact Nat.le_refl _
        · rename_i hc
          have : ¬ b.length < g.length := fun h => hc ⟨h, hp⟩
          omega
      · exact ih _ h
  exact this signsU [] hg
theorem prefix_take {g l : List UInt8} (h : g.isPrefixOf l = true) : g = l.take g.length := by
  have := List.isPrefixOf_iff_prefix.1 h
  exact (List.prefix_iff_eq_take.1 this)
theorem signs_len : ∀ g ∈ signsU, 1 ≤ g.length ∧ g.length ≤ 2 := by decide
/-- Behind a byte that is in no sign nothing changes. -/
theorem sign_app (c x : UInt8) (y l : List UInt8) (hc : ∀ g ∈ signsU, c ∉ g) : signL (x :: (l ++ c :: y)) = signL (x :: l) := by
  have key : ∀ g ∈ signsU, g.isPrefixOf (x :: (l ++ c :: y)) = g.isPrefixOf (x :: l) := by
    intro g hg
    have h1 := signs_len g hg
    have h2 := hc g hg
    match g, h1, h2, l with
    | [a], _, _, _ => simp [List.isPrefixOf]
    | [a, b], _, h2, [] =>
      have hb : (b == c) = false := by
        cases hb : b == c with
        | false => rfl
        | true => exact absurd (by rw [eq_of_beq hb]; simp) h2
      simp [List.isPrefixOf, hb]
    | [a, b], _, _, z :: r => simp [List.isPrefixOf]
    | [], h1, _, _ => simp at h1
    | _ :: _ :: _ :: _, h1, _, _ => simp at h1
  unfold signL
  have : ∀ (gs : List (List UInt8)), (∀ g ∈ gs, g ∈ signsU) → ∀ b, gs.foldl (fun b g => if b.length < g.length ∧ g.isPrefixOf (x :: (l ++ c :: y)) = true then g else b) b = gs.foldl (fun b g => if b.length < g.length ∧ g.isPrefixOf (x :: l) = true then g else b) b := by
    intro gs
    induction gs with
    | nil => intro _ b; rfl
    | cons g gs ih =>
      intro hg b
      simp only [List.foldl_cons]
      rw [key g (hg g (List.mem_cons_self ..)), ih fun g' h' => hg g' (List.mem_cons_of_mem _ h')]
  exact this signsU (fun g h => h) []
/-- Bytes of a string. -/
theorem text_len : ∀ (k : Nat) (l : List UInt8), l.length ≤ k → ∀ xs n, textL l = some (xs, n) → 1 ≤ n ∧ n ≤ l.length
  | _, [], _, xs, n, h => by simp [textL] at h
  | 0, c :: r, hk, _, _, _ => by simp at hk
  | k + 1, c :: r, hk, xs, n, h => by
    simp only [List.length_cons] at hk
    unfold textL at h
    split at h
    · obtain ⟨rfl, rfl⟩ := Prod.mk.inj (Option.some.inj h); simp
    · split at h
      · cases h
      · split at h
        · split at h
          · cases h
          · rename_i e r'
            split at h
            · rename_i x ys m _ hr
              obtain ⟨rfl, rfl⟩ := Prod.mk.inj (Option.some.inj h)
              have := text_len k r' (by simp at hk; omega) _ _ hr
              simp only [List.length_cons]; omega
            · cases h
        · split at h
          · rename_i ys m hr
            obtain ⟨rfl, rfl⟩ := Prod.mk.inj (Option.some.inj h)
            have := text_len k r (by omega) _ _ hr
            simp only [List.length_cons]; omega
          · cases h
theorem text_app (y : List UInt8) : ∀ (k : Nat) (l : List UInt8), l.length ≤ k → ∀ q, textL l = some q → textL (l ++ y) = some q
  | _, [], _, q, h => by simp [textL] at h
  | 0, c :: r, hk, _, _ => by simp at hk
  | k + 1, c :: r, hk, q, h => by
    simp only [List.length_cons] at hk
    rw [List.cons_append]
    unfold textL at h ⊢
    split at h
    · rename_i h1; rw [if_pos h1]; exact h
    · rename_i h1; rw [if_neg h1]
      split at h
      · cases h
      · rename_i h2; rw [if_neg h2]
        split at h
        · rename_i h3; rw [if_pos h3]
          cases r with
          | nil => cases h
          | cons e r' =>
            simp only [List.cons_append] at h ⊢
            cases he : escU e with
            | none => rw [he] at h; simp at h
            | some x =>
              rw [he] at h
              cases ht : textL r' with
              | none => rw [ht] at h; simp at h
              | some z =>
                rw [ht] at h
                rw [text_app y k r' (by simp at hk; omega) z ht]
                exact h
        · rename_i h3; rw [if_neg h3]
          cases ht : textL r with
          | none => rw [ht] at h; cases h
          | some z =>
            rw [ht] at h
            rw [text_app y k r (by omega) z ht]
            exact h
theorem text_app_none (y : List UInt8) : ∀ (k : Nat) (l : List UInt8), l.length ≤ k → textL l = none → textL (l ++ 10 :: y) = none
  | _, [], _, _ => by
    rw [List.nil_append]
    unfold textL
    rw [if_neg (by decide), if_pos (.inl (by decide))]
  | 0, c :: r, hk, _ => by simp at hk
  | k + 1, c :: r, hk, h => by
    simp only [List.length_cons] at hk
    rw [List.cons_append]
    unfold textL at h ⊢
    split at h
    · cases h
    · rename_i h1; rw [if_neg h1]
      split at h
      · rename_i h2; rw [if_pos h2]
      · rename_i h2; rw [if_neg h2]
        split at h
        · rename_i h3; rw [if_pos h3]
          cases r with
          | nil => simp [escU]
          | cons e r' =>
            simp only [List.cons_append] at h ⊢
            cases he : escU e with
            | none => simp
            | some x =>
              rw [he] at h
              cases ht : textL r' with
              | none => rw [text_app_none y k r' (by simp at hk; omega) ht]
              | some z => rw [ht] at h; cases h
        · rename_i h3; rw [if_neg h3]
          cases ht : textL r with
          | none => rw [text_app_none y k r (by omega) ht]
          | some z => rw [ht] at h; cases h
theorem text_take : ∀ (k : Nat) (l : List UInt8), l.length ≤ k → ∀ xs n m, textL l = some (xs, n) → n ≤ m → textL (l.take m) = some (xs, n) := by
  intro k l hk xs n m h hm
  -- the text behind is not looked at
  have : ∀ (k : Nat) (l : List UInt8), l.length ≤ k → ∀ xs n, textL l = some (xs, n) → ∀ m, n ≤ m → textL (l.take m) = some (xs, n) := by
    intro k
    induction k with
    | zero =>
      intro l hk xs n h
      have : l = [] := List.length_eq_zero_iff.1 (by omega)
      subst this; simp [textL] at h
    | succ k ih =>
      intro l hk xs n h m hm
      cases l with
      | nil => simp [textL] at h
      | cons c r =>
        have hn := text_len _ _ (Nat.le_refl _) _ _ h
        simp only [List.length_cons] at hk
        cases m with
        | zero => omega
        | succ m =>
          rw [List.take_succ_cons]
          unfold textL at h ⊢
          split at h
          · rename_i h1; rw [if_pos h1]; exact h
          · rename_i h1; rw [if_neg h1]
            split at h
            · cases h
            · rename_i h2; rw [if_neg h2]
              split at h
              · rename_i h3; rw [if_pos h3]
                cases r with
                | nil => cases h
                | cons e r' =>
                  simp only at h
                  split at h
                  · rename_i x ys j he ht
                    obtain ⟨rfl, rfl⟩ := Prod.mk.inj (Option.some.inj h)
                    cases m with
                    | zero => omega
                    | succ m =>
                      simp only [List.take_succ_cons, he, ih r' (by simp at hk; omega) _ _ ht m (by omega)]
                  · cases h
              · rename_i h3; rw [if_neg h3]
                split at h
                · rename_i ys j ht
                  obtain ⟨rfl, rfl⟩ := Prod.mk.inj (Option.some.inj h)
                  rw [ih r (by omega) _ _ ht m (by omega)]
                · cases h
  exact this k l hk xs n h m hm
theorem char_len {q : Nat} {l : List UInt8} {x : UInt8} {n : Nat} (h : charL q l = some (x, n)) : 1 ≤ n ∧ n ≤ l.length := by
  unfold charL at h
  split at h
  · cases h
  · split at h
    · cases h
    · split at h
      · split at h
        · cases h
        · rename_i e r'
          cases he : escU e with
          | none => rw [he] at h; cases h
          | some z =>
            rw [he] at h
            obtain ⟨rfl, rfl⟩ := Prod.mk.inj (Option.some.inj h)
            simp only [List.length_cons]; omega
      · obtain ⟨rfl, rfl⟩ := Prod.mk.inj (Option.some.inj h)
        simp only [List.length_cons]; omega
theorem char_app {q : Nat} {l : List UInt8} {z : UInt8 × Nat} (y : List UInt8) (h : charL q l = some z) : charL q (l ++ y) = some z := by
  unfold charL at h
  split at h
  · cases h
  · rename_i c r
    rw [List.cons_append]
    unfold charL
    split at h
    · cases h
    · rename_i h1
      simp only
      rw [if_neg h1]
      split at h
      · rename_i h2; rw [if_pos h2]
        cases r with
        | nil => cases h
        | cons e r' => exact h
      · rename_i h2; rw [if_neg h2]; exact h
theorem char_app_none {q : Nat} {l : List UInt8} (y : List UInt8) (h : charL q l = none) : charL q (l ++ 10 :: y) = none := by
  unfold charL at h
  split at h
  · simp [charL]
  · rename_i c r
    rw [List.cons_append]
    unfold charL
    simp only
    split at h
    · rename_i h1; rw [if_pos h1]
    · rename_i h1; rw [if_neg h1]
      split at h
      · rename_i h2; rw [if_pos h2]
        cases r with
        | nil => simp [escU]
        | cons e r' => exact h
      · cases h
theorem char_take {q : Nat} {l : List UInt8} {x : UInt8} {n : Nat} (h : charL q l = some (x, n)) (m : Nat) (hm : n ≤ m) : charL q (l.take m) = some (x, n) := by
  have hn := char_len h
  unfold charL at h
  split at h
  · cases h
  · rename_i c r
    cases m with
    | zero => omega
    | succ m =>
      rw [List.take_succ_cons]
      unfold charL
      simp only
      split at h
      · cases h
      · rename_i h1; rw [if_neg h1]
        split at h
        · rename_i h2; rw [if_pos h2]
          cases r with
          | nil => cases h
          | cons e r' =>
            simp only at h
            cases he : escU e with
            | none => rw [he] at h; cases h
            | some z =>
              rw [he] at h
              obtain ⟨rfl, rfl⟩ := Prod.mk.inj (Option.some.inj h)
              cases m with
              | zero => omega
              | succ m => simp only [List.take_succ_cons, he, Option.map_some]
        · rename_i h2; rw [if_neg h2]; exact h
theorem signs_no (c : UInt8) (hc : c = 9 ∨ c = 10) : ∀ g ∈ signsU, c ∉ g := by
  rcases hc with rfl | rfl <;> decide
theorem takeWhile_pos {p : UInt8 → Bool} {c : UInt8} {r : List UInt8} (h : p c = true) : 1 ≤ ((c :: r).takeWhile p).length := by
  simp [List.takeWhile_cons, h]
/-- A token takes bytes. -/
theorem tok_len {l : List UInt8} {t : Tk} {n : Nat} (h : tokL l = .ok (t, n)) : 1 ≤ n ∧ n ≤ l.length := by
  unfold tokL at h
  split at h
  · cases h
  · rename_i c r
    split at h
    · rename_i h1
      split at h
      · cases h
      · obtain ⟨-, rfl⟩ := Prod.mk.inj (Except.ok.inj h)
        exact ⟨takeWhile_pos (by simp [wdU, h1]), takeWhile_le _ _⟩
    · split at h
      · rename_i h1
        split at h
        · cases h
        · obtain ⟨-, rfl⟩ := Prod.mk.inj (Except.ok.inj h)
          exact ⟨takeWhile_pos h1, takeWhile_le _ _⟩
      · split at h
        · split at h
          · cases h
          · split at h
            · cases h
            · obtain ⟨-, rfl⟩ := Prod.mk.inj (Except.ok.inj h)
              have := takeWhile_le hxU r
              simp only [List.length_cons]; omega
        · split at h
          · split at h
            · cases h
            · rename_i x m hc
              split at h
              · cases h
              · rename_i q r' hd
                split at h
                · obtain ⟨-, rfl⟩ := Prod.mk.inj (Except.ok.inj h)
                  have h2 := congrArg List.length hd
                  simp only [List.length_drop, List.length_cons] at h2 ⊢
                  omega
                · cases h
          · split at h
            · split at h
              · cases h
              · rename_i xs m hc
                split at h
                · cases h
                · obtain ⟨-, rfl⟩ := Prod.mk.inj (Except.ok.inj h)
                  have := text_len _ _ (Nat.le_refl _) _ _ hc
                  simp only [List.length_cons]; omega
            · split at h
              · cases h
              · rename_i hs
                obtain ⟨-, rfl⟩ := Prod.mk.inj (Except.ok.inj h)
                rcases sign_ok (c :: r) with h0 | ⟨h1, h2⟩
                · exact absurd h0 hs
                · have := signs_len _ h1
                  have h3 := (List.isPrefixOf_iff_prefix.1 h2).length_le
                  omega
theorem dg10 : dgU 10 = false ∧ wdU 10 = false ∧ hxU 10 = false ∧ dgU 9 = false ∧ wdU 9 = false ∧ hxU 9 = false := by decide
theorem drop_app (r y : List UInt8) (n : Nat) (h : n ≤ r.length) : (r ++ y).drop n = r.drop n ++ y := List.drop_append_of_le_length h
/-- A line feed behind a text ends a token, or has the same error. -/
theorem tok_lf (c : UInt8) (r y : List UInt8) : tokL (c :: (r ++ 10 :: y)) = tokL (c :: r) := by
  have e1 : (c :: (r ++ 10 :: y)).takeWhile wdU = (c :: r).takeWhile wdU := app_takeWhile wdU 10 y dg10.2.1 (c :: r)
  have e2 : (c :: (r ++ 10 :: y)).takeWhile dgU = (c :: r).takeWhile dgU := app_takeWhile dgU 10 y dg10.1 (c :: r)
  have e3 : (r ++ 10 :: y).takeWhile hxU = r.takeWhile hxU := app_takeWhile hxU 10 y dg10.2.2.1 r
  have e4 : signL (c :: (r ++ 10 :: y)) = signL (c :: r) := sign_app 10 c y r (signs_no 10 (.inr rfl))
  unfold tokL
  simp only [e1, e2, e3, e4]
  split
  · rfl
  split
  · rfl
  split
  · rfl
  split
  · cases hc : charL 39 r with
    | none => rw [char_app_none y hc]
    | some z =>
      obtain ⟨x, n⟩ := z
      rw [char_app _ hc]
      have := char_len hc
      simp only
      rw [drop_app _ _ _ this.2]
      cases r.drop n with
      | nil => simp
      | cons q s => simp
  split
  · cases hc : textL r with
    | none => rw [text_app_none y _ _ (Nat.le_refl _) hc]
    | some z => rw [text_app _ _ _ (Nat.le_refl _) _ hc]
  · rfl
/-- A blank behind a whole token changes nothing. -/
theorem tok_tab {c : UInt8} {r : List UInt8} {z : Tk × Nat} (y : List UInt8) (h : tokL (c :: r) = .ok z) : tokL (c :: (r ++ 9 :: y)) = .ok z := by
  have e1 : (c :: (r ++ 9 :: y)).takeWhile wdU = (c :: r).takeWhile wdU := app_takeWhile wdU 9 y dg10.2.2.2.2.1 (c :: r)
  have e2 : (c :: (r ++ 9 :: y)).takeWhile dgU = (c :: r).takeWhile dgU := app_takeWhile dgU 9 y dg10.2.2.2.1 (c :: r)
  have e3 : (r ++ 9 :: y).takeWhile hxU = r.takeWhile hxU := app_takeWhile hxU 9 y dg10.2.2.2.2.2 r
  have e4 : signL (c :: (r ++ 9 :: y)) = signL (c :: r) := sign_app 9 c y r (signs_no 9 (.inl rfl))
  rw [← h]
  unfold tokL at h ⊢
  simp only [e1, e2, e3, e4]
  simp only at h
  split
  · rfl
  rename_i g1
  rw [if_neg g1] at h
  split
  · rfl
  rename_i g2
  rw [if_neg g2] at h
  split
  · rfl
  rename_i g3
  rw [if_neg g3] at h
  split
  · rename_i g4
    rw [if_pos g4] at h
    cases hc : charL 39 r with
    | none => rw [hc] at h; cases h
    | some x =>
      obtain ⟨x, n⟩ := x
      rw [hc] at h
      rw [char_app _ hc]
      have := char_len hc
      simp only at h ⊢
      rw [drop_app _ _ _ this.2]
      cases hd : r.drop n with
      | nil => rw [hd] at h; cases h
      | cons q s => simp
  · rename_i g4
    rw [if_neg g4] at h
    split
    · rename_i g5
      rw [if_pos g5] at h
      cases hc : textL r with
      | none => rw [hc] at h; cases h
      | some x => rw [text_app _ _ _ (Nat.le_refl _) _ hc]
    · rfl
/-- What is cut away behind a token changes nothing. -/
theorem tok_take {c : UInt8} {r : List UInt8} {t : Tk} {n : Nat} (m : Nat) (h : tokL (c :: r) = .ok (t, n)) (hm : n ≤ m + 1) : tokL (c :: r.take m) = .ok (t, n) := by
  have tk : ∀ p : UInt8 → Bool, ((c :: r).takeWhile p).length ≤ m + 1 → (c :: r.take m).takeWhile p = (c :: r).takeWhile p := fun p hp => take_takeWhile p (c :: r) (m + 1) hp
  unfold tokL at h ⊢
  simp only at h ⊢
  split at h
  · rename_i h1
    rw [if_pos h1]
    split at h
    · cases h
    · rename_i h2
      have hn := (Prod.mk.inj (Except.ok.inj h)).2
      rw [tk wdU (by omega), if_neg h2]; exact h
  · rename_i h1
    rw [if_neg h1]
    split at h
    · rename_i h2
      rw [if_pos h2]
      split at h
      · cases h
      · rename_i h3
        have hn := (Prod.mk.inj (Except.ok.inj h)).2
        rw [tk dgU (by omega), if_neg h3]; exact h
    · rename_i h2
      rw [if_neg h2]
      split at h
      · rename_i h3
        rw [if_pos h3]
        split at h
        · cases h
        · rename_i h4
          split at h
          · cases h
          · rename_i h5
            have hn := (Prod.mk.inj (Except.ok.inj h)).2
            rw [take_takeWhile hxU r m (by omega), if_neg h4, if_neg h5]; exact h
      · rename_i h3
        rw [if_neg h3]
        split at h
        · rename_i h4
          rw [if_pos h4]
          cases hc : charL 39 r with
          | none => rw [hc] at h; cases h
          | some x =>
            obtain ⟨x, k⟩ := x
            rw [hc] at h
            simp only at h
            cases hd : r.drop k with
            | nil => rw [hd] at h; cases h
            | cons q s =>
              rw [hd] at h
              simp only at h
              split at h
              · rename_i h6
                have hn := (Prod.mk.inj (Except.ok.inj h)).2
                rw [char_take hc m (by omega)]
                simp only
                rw [List.drop_take, hd]
                obtain ⟨j, hj⟩ : ∃ j, m - k = j + 1 := ⟨m - k - 1, by omega⟩
                rw [hj, List.take_succ_cons]
                simp only
                rw [if_pos h6]; exact h
              · cases h
        · rename_i h4
          rw [if_neg h4]
          split at h
          · rename_i h5
            rw [if_pos h5]
            cases hc : textL r with
            | none => rw [hc] at h; cases h
            | some x =>
              obtain ⟨xs, k⟩ := x
              rw [hc] at h
              simp only at h
              split at h
              · cases h
              · rename_i h6
                have hn := (Prod.mk.inj (Except.ok.inj h)).2
                rw [text_take _ _ (Nat.le_refl _) _ _ m hc (by omega)]
                simp only
                rw [if_neg h6]; exact h
          · rename_i h5
            rw [if_neg h5]
            split at h
            · cases h
            · rename_i h6
              have hn := (Prod.mk.inj (Except.ok.inj h)).2
              -- the longest sign stays the longest
              have hs : signL (c :: r.take m) = signL (c :: r) := by
                rcases sign_ok (c :: r) with h0 | ⟨q1, q2⟩
                · exact absurd h0 h6
                · have ql := signs_len _ q1
                  have hp : (signL (c :: r)).isPrefixOf (c :: r.take m) = true := by
                    rw [List.isPrefixOf_iff_prefix]
                    have e := prefix_take q2
                    rw [e, show c :: r.take m = (c :: r).take (m + 1) from rfl]
                    exact List.take_prefix_take_left (by omega)
                  have g1 := sign_max (c :: r.take m) _ q1 hp
                  rcases sign_ok (c :: r.take m) with h0 | ⟨p1, p2⟩
                  · rw [h0] at g1; simp only [List.length_nil] at g1; omega
                  · have hp' : (signL (c :: r.take m)).isPrefixOf (c :: r) = true := by
                      rw [List.isPrefixOf_iff_prefix] at p2 ⊢
                      exact p2.trans (List.take_prefix (m + 1) (c :: r))
                    have g2 := sign_max (c :: r) _ p1 hp'
                    have e1 := prefix_take hp
                    have e2 := prefix_take p2
                    have hl : (signL (c :: r.take m)).length = (signL (c :: r)).length := by omega
                    rw [e2, hl, ← e1]
              rw [hs, if_neg h6]; exact h
end Go.Lx

namespace Go.Lx
theorem skipA_t (c : UInt8) (r : List UInt8) : skipA true (c :: r) = bif c.toNat == 10 then skipA false r else skipA true r := by simp only [skipA]
theorem skipA_f (c : UInt8) (r : List UInt8) : skipA false (c :: r) = bif blU c then skipA false r else bif c.toNat == 47 && slashed r then skipA true r else c :: r := by simp only [skipA]
theorem skip_len : ∀ (l : List UInt8) (b : Bool), (skipA b l).length ≤ l.length
  | [], b => by cases b <;> simp [skipA]
  | c :: r, true => by
    rw [skipA_t]
    cases h : c.toNat == 10
    · have := skip_len r true; simp only [cond_false, List.length_cons]; omega
    · have := skip_len r false; simp only [cond_true, List.length_cons]; omega
  | c :: r, false => by
    rw [skipA_f]
    cases h : blU c
    · cases h2 : (c.toNat == 47 && slashed r)
      · simp
      · have := skip_len r true; simp only [cond_false, cond_true, List.length_cons]; omega
    · have := skip_len r false; simp only [cond_true, List.length_cons]; omega
theorem skip_take : ∀ (l : List UInt8) (b : Bool) (k : Nat), l.length - (skipA b l).length ≤ k → skipA b (l.take k) = (skipA b l).take (k - (l.length - (skipA b l).length))
  | [], b, k, _ => by cases b <;> simp [skipA]
  | c :: r, true, k, h => by
    cases k with
    | zero =>
      have : (skipA true (c :: r)).length ≤ r.length := by
        rw [skipA_t]
        cases c.toNat == 10
        · exact skip_len r true
        · exact skip_len r false
      simp only [List.length_cons] at h; omega
    | succ k =>
      rw [List.take_succ_cons]
      simp only [skipA_t] at h ⊢
      cases hc : c.toNat == 10
      · simp only [hc, cond_false, List.length_cons] at h ⊢
        have hl := skip_len r true
        rw [skip_take r true k (by omega)]
        congr 1; omega
      · simp only [hc, cond_true, List.length_cons] at h ⊢
        have hl := skip_len r false
        rw [skip_take r false k (by omega)]
        congr 1; omega
  | c :: r, false, k, h => by
    cases hb : blU c
    · cases hs : (c.toNat == 47 && slashed r)
      · have e : skipA false (c :: r) = c :: r := by rw [skipA_f]; simp only [hb, hs, cond_false]
        rw [e] at h ⊢
        simp only [Nat.sub_self, Nat.sub_zero]
        cases k with
        | zero => simp [skipA]
        | succ k =>
          rw [List.take_succ_cons]
          rw [skipA_f]
          have hs' : (c.toNat == 47 && slashed (r.take k)) = false := by
            cases hc : c.toNat == 47
            · rfl
            · rw [hc, Bool.true_and] at hs
              rw [Bool.true_and]
              cases r with
              | nil => simp [slashed]
              | cons x r => cases k with
                | zero => simp [slashed]
                | succ k => simpa [slashed] using hs
          simp only [hb, hs', cond_false]
      · have e : skipA false (c :: r) = skipA true r := by rw [skipA_f]; simp only [hb, hs, cond_false, cond_true]
        rw [e] at h ⊢
        have hl := skip_len r true
        simp only [List.length_cons] at h ⊢
        rw [Bool.and_eq_true] at hs
        cases r with
        | nil => simp [slashed] at hs
        | cons x r' =>
          -- both bars are in what is passed over
          have hx : (skipA true (x :: r')).length ≤ r'.length := by
            rw [skipA_t]
            cases x.toNat == 10
            · exact skip_len r' true
            · exact skip_len r' false
          simp only [List.length_cons] at h hl ⊢
          obtain ⟨k', rfl⟩ : ∃ k', k = k' + 2 := ⟨k - 2, by omega⟩
          rw [List.take_succ_cons]
          have e2 : skipA false (c :: (x :: r').take (k' + 1)) = skipA true ((x :: r').take (k' + 1)) := by
            rw [skipA_f]
            have : (c.toNat == 47 && slashed ((x :: r').take (k' + 1))) = true := by
              rw [List.take_succ_cons, hs.1, Bool.true_and]; exact hs.2
            simp only [hb, this, cond_false, cond_true]
          rw [e2, skip_take (x :: r') true (k' + 1) (by simp only [List.length_cons]; omega)]
          congr 1
          simp only [List.length_cons]; omega
    · have e : ∀ r', skipA false (c :: r') = skipA false r' := fun r' => by rw [skipA_f, hb, cond_true]
      rw [e] at h ⊢
      have hl := skip_len r false
      simp only [List.length_cons] at h ⊢
      cases k with
      | zero => omega
      | succ k =>
        rw [List.take_succ_cons, e, skip_take r false k (by omega)]
        congr 1; omega
theorem skip_lf (y : List UInt8) : ∀ (l : List UInt8) (b : Bool), skipA b (l ++ 10 :: y) = match skipA b l with | [] => skipA false y | c :: r => c :: (r ++ 10 :: y)
  | [], true => by
    rw [List.nil_append]
    have e : skipA true [] = [] := by simp [skipA]
    rw [e]
    first | rw [skipA_t] | rw [skipA_f]
    rfl
  | [], false => by
    rw [List.nil_append]
    have e : skipA false [] = [] := by simp [skipA]
    rw [e]
    first | rw [skipA_t] | rw [skipA_f]
    rfl
  | c :: r, true => by
    rw [List.cons_append]
    rw [skipA_t, skipA_t]
    cases hc : c.toNat == 10
    · simp only [cond_false]; exact skip_lf y r true
    · simp only [cond_true]; exact skip_lf y r false
  | c :: r, false => by
    rw [List.cons_append]
    have hs : slashed (r ++ 10 :: y) = slashed r := by
      cases r with
      | nil => simp [slashed]
      | cons x r => rfl
    rw [skipA_f, skipA_f, hs]
    cases hb : blU c
    · cases h2 : (c.toNat == 47 && slashed r)
      · simp only [cond_false]
      · simp only [cond_false, cond_true]; exact skip_lf y r true
    · simp only [cond_true]; exact skip_lf y r false
/-- The blanks and the comment that are put in. -/
def insU : List UInt8 := [9, 32, 47, 47, 42, 32, 10]
theorem skip_ins0 (y : List UInt8) (b : Bool) : skipA b (insU ++ y) = skipA false y := by
  cases b <;> simp [insU, skipA, blU, slashed]
theorem skip_ins (y : List UInt8) : ∀ (l : List UInt8) (b : Bool), skipA b l = [] → skipA b (l ++ (insU ++ y)) = skipA false y
  | [], b, _ => by rw [List.nil_append]; exact skip_ins0 y b
  | c :: r, true, h => by
    rw [List.cons_append]
    rw [skipA_t] at h ⊢
    cases hc : c.toNat == 10
    · simp only [hc, cond_false] at h ⊢; exact skip_ins y r true h
    · simp only [hc, cond_true] at h ⊢; exact skip_ins y r false h
  | c :: r, false, h => by
    rw [List.cons_append]
    have hs : slashed (r ++ (insU ++ y)) = slashed r := by
      cases r with
      | nil => simp [slashed, insU]
      | cons x r => rfl
    rw [skipA_f] at h ⊢
    rw [hs]
    cases hb : blU c
    · cases h2 : (c.toNat == 47 && slashed r)
      · simp [hb, h2] at h
      · simp only [hb, h2, cond_false, cond_true] at h ⊢; exact skip_ins y r true h
    · simp only [hb, cond_true] at h ⊢; exact skip_ins y r false h
/-- What begins a token is not passed over. -/
theorem skip_ins1 (y : List UInt8) {c : UInt8} {r : List UInt8} (h : skipA false (c :: r) = c :: r) : skipA false (c :: (r ++ (insU ++ y))) = c :: (r ++ (insU ++ y)) := by
  have hs : slashed (r ++ (insU ++ y)) = slashed r := by
    cases r with
    | nil => simp [slashed, insU]
    | cons x r => rfl
  rw [skipA_f] at h ⊢
  rw [hs]
  cases hb : blU c
  · cases h2 : (c.toNat == 47 && slashed r)
    · simp only [cond_false]
    · simp only [hb, h2, cond_false, cond_true] at h
      have := skip_len r true
      rw [h] at this
      simp at this
      omega
  · simp only [hb, cond_true] at h
    have := skip_len r false
    rw [h] at this
    simp at this
    omega
theorem skip_idem : ∀ (l : List UInt8) (b : Bool), skipA false (skipA b l) = skipA b l
  | [], b => by cases b <;> simp [skipA]
  | c :: r, true => by
    rw [skipA_t]
    cases hc : c.toNat == 10
    · exact skip_idem r true
    · exact skip_idem r false
  | c :: r, false => by
    have e : skipA false (c :: r) = bif blU c then skipA false r else bif c.toNat == 47 && slashed r then skipA true r else c :: r := by simp only [skipA]
    cases hb : blU c
    · cases hs : (c.toNat == 47 && slashed r)
      · have e' : skipA false (c :: r) = c :: r := by rw [e, hb, hs]; rfl
        rw [e', e']
      · rw [e, hb, hs]; exact skip_idem r true
    · rw [e, hb]; exact skip_idem r false
theorem skip_drop : ∀ (l : List UInt8) (b : Bool), skipA b l = l.drop (l.length - (skipA b l).length)
  | [], b => by cases b <;> simp [skipA]
  | c :: r, true => by
    have e : skipA true (c :: r) = bif c.toNat == 10 then skipA false r else skipA true r := by simp only [skipA]
    rw [e]
    cases hc : c.toNat == 10
    · have h := skip_drop r true
      have hl := skip_len r true
      simp only [cond_false, List.length_cons]
      rw [show r.length + 1 - (skipA true r).length = (r.length - (skipA true r).length) + 1 by omega, List.drop_succ_cons]; exact h
    · have h := skip_drop r false
      have hl := skip_len r false
      simp only [cond_true, List.length_cons]
      rw [show r.length + 1 - (skipA false r).length = (r.length - (skipA false r).length) + 1 by omega, List.drop_succ_cons]; exact h
  | c :: r, false => by
    have e : skipA false (c :: r) = bif blU c then skipA false r else bif c.toNat == 47 && slashed r then skipA true r else c :: r := by simp only [skipA]
    rw [e]
    cases hb : blU c
    · cases hs : (c.toNat == 47 && slashed r)
      · simp
      · have h := skip_drop r true
        have hl := skip_len r true
        simp only [cond_false, cond_true, List.length_cons]
        rw [show r.length + 1 - (skipA true r).length = (r.length - (skipA true r).length) + 1 by omega, List.drop_succ_cons]; exact h
    · have h := skip_drop r false
      have hl := skip_len r false
      simp only [cond_true, List.length_cons]
      rw [show r.length + 1 - (skipA false r).length = (r.length - (skipA false r).length) + 1 by omega, List.drop_succ_cons]; exact h
/-! ### All tokens -/
theorem raw_nil {k : Nat} {l : List UInt8} {E : Nat} (h : skipA false l = []) : rawF k l E = ⟨[], none, E⟩ := by
  cases k with
  | zero => rfl
  | succ k => unfold rawF; rw [h]
theorem raw_err {k : Nat} {l : List UInt8} {E : Nat} {c : UInt8} {r : List UInt8} {e : Int} (h : skipA false l = c :: r) (ht : tokL (c :: r) = .error e) : rawF (k + 1) l E = ⟨[], some e, E - (r.length + 1)⟩ := by
  conv => lhs; unfold rawF
  simp only [h, ht]
theorem raw_ok {k : Nat} {l : List UInt8} {E : Nat} {c : UInt8} {r : List UInt8} {t : Tk} {n : Nat} (h : skipA false l = c :: r) (ht : tokL (c :: r) = .ok (t, n)) :
    rawF (k + 1) l E = ⟨(t, E - (r.length + 1)) :: (rawF k ((c :: r).drop n) E).toks, (rawF k ((c :: r).drop n) E).err, (rawF k ((c :: r).drop n) E).p⟩ := by
  conv => lhs; unfold rawF
  simp only [h, ht]
theorem rest_len {l : List UInt8} {c : UInt8} {r : List UInt8} {t : Tk} {n : Nat} (h : skipA false l = c :: r) (ht : tokL (c :: r) = .ok (t, n)) : ((c :: r).drop n).length + n = r.length + 1 ∧ r.length + 1 ≤ l.length ∧ 1 ≤ n := by
  have h1 := skip_len l false
  rw [h] at h1
  have h2 := tok_len ht
  simp only [List.length_cons, List.length_drop] at h1 h2 ⊢
  omega
theorem raw_fuel : ∀ (k : Nat) {k' : Nat} {l : List UInt8} {E : Nat}, l.length < k → l.length < k' → rawF k l E = rawF k' l E
  | 0, k', l, E, h, _ => by omega
  | k + 1, 0, l, E, _, h => by omega
  | k + 1, k' + 1, l, E, h, h' => by
    cases hs : skipA false l with
    | nil => rw [raw_nil hs, raw_nil hs]
    | cons c r =>
      cases ht : tokL (c :: r) with
      | error e => rw [raw_err hs ht, raw_err hs ht]
      | ok z =>
        obtain ⟨t, n⟩ := z
        have hl := rest_len hs ht
        rw [raw_ok hs ht, raw_ok hs ht, raw_fuel k (k' := k') (by omega) (by omega)]
theorem raw_toks_len : ∀ (k : Nat) {l : List UInt8} {E : Nat}, (rawF k l E).toks.length ≤ l.length
  | 0, l, E => by simp [rawF]
  | k + 1, l, E => by
    cases hs : skipA false l with
    | nil => rw [raw_nil hs]; simp
    | cons c r =>
      cases ht : tokL (c :: r) with
      | error e => rw [raw_err hs ht]; simp
      | ok z =>
        obtain ⟨t, n⟩ := z
        have hl := rest_len hs ht
        rw [raw_ok hs ht]
        have := raw_toks_len k (l := (c :: r).drop n) (E := E)
        simp only [List.length_cons] at this ⊢
        omega
/-- The same text that ends d further on. -/
def Raw.up (d : Nat) (q : Raw) : Raw := ⟨q.toks.map fun x => (x.1, x.2 + d), q.err, q.p + d⟩
theorem raw_up (d : Nat) : ∀ (k : Nat) {l : List UInt8} {E : Nat}, l.length ≤ E → rawF k l (E + d) = (rawF k l E).up d
  | 0, l, E, h => by simp [rawF, Raw.up]
  | k + 1, l, E, h => by
    cases hs : skipA false l with
    | nil => rw [raw_nil hs, raw_nil hs]; rfl
    | cons c r =>
      have h1 := skip_len l false
      rw [hs, List.length_cons] at h1
      cases ht : tokL (c :: r) with
      | error e =>
        rw [raw_err hs ht, raw_err hs ht]
        simp only [Raw.up, List.map_nil, Raw.mk.injEq, true_and]; omega
      | ok z =>
        obtain ⟨t, n⟩ := z
        have hl := rest_len hs ht
        rw [raw_ok hs ht, raw_ok hs ht, raw_up d k (by omega)]
        simp only [Raw.up, List.map_cons, Raw.mk.injEq, List.cons.injEq, Prod.mk.injEq, true_and, and_true]; omega
/-- Of two texts with a line feed between them. -/
theorem raw_two (y : List UInt8) : ∀ (k : Nat) {k' k'' : Nat} {l : List UInt8} {E : Nat}, l.length < k → (l ++ 10 :: y).length < k' → y.length < k'' →
    rawF k' (l ++ 10 :: y) (E + (y.length + 1)) = match (rawF k l E).err with
      | some _ => rawF k l E
      | none => ⟨(rawF k l E).toks ++ (rawF k'' y (E + (y.length + 1))).toks, (rawF k'' y (E + (y.length + 1))).err, (rawF k'' y (E + (y.length + 1))).p⟩
  | 0, _, _, l, E, h, _, _ => by omega
  | k + 1, 0, _, l, E, _, h, _ => by omega
  | k + 1, k' + 1, k'', l, E, h, h', h'' => by
    have hlf := skip_lf y l false
    have hlen : (l ++ 10 :: y).length = l.length + y.length + 1 := by simp; omega
    cases hs : skipA false l with
    | nil =>
      rw [hs] at hlf
      rw [raw_nil hs]
      simp only [List.nil_append]
      have hsk : ∀ j, rawF (j + 1) (l ++ 10 :: y) (E + (y.length + 1)) = rawF (j + 1) y (E + (y.length + 1)) := fun j => by
        conv => lhs; unfold rawF
        conv => rhs; unfold rawF
        rw [hlf]
      rw [hsk k', raw_fuel (k' + 1) (k' := k'') (by omega) h'']
    | cons c r =>
      rw [hs] at hlf
      have h1 := skip_len l false
      rw [hs, List.length_cons] at h1
      cases ht : tokL (c :: r) with
      | error e =>
        rw [raw_err hs ht, raw_err hlf ((tok_lf c r y).trans ht)]
        simp only [List.length_append, List.length_cons, Raw.mk.injEq, true_and]; omega
      | ok z =>
        obtain ⟨t, n⟩ := z
        have hl := rest_len hs ht
        have hn : n ≤ (c :: r).length := (tok_len ht).2
        rw [raw_ok hs ht, raw_ok hlf ((tok_lf c r y).trans ht)]
        have hd : (c :: (r ++ 10 :: y)).drop n = (c :: r).drop n ++ 10 :: y := drop_app (c :: r) (10 :: y) n hn
        have hp : E + (y.length + 1) - ((r ++ 10 :: y).length + 1) = E - (r.length + 1) := by
          simp only [List.length_append, List.length_cons]; omega
        rw [hd, hp, raw_two y k (k' := k') (k'' := k'') (l := (c :: r).drop n) (E := E) (by omega) (by simp only [List.length_append, List.length_cons] at h' ⊢; simp only [List.length_drop, List.length_cons] at hl ⊢; omega) h'']
        cases he : (rawF k ((c :: r).drop n) E).err with
        | none => simp only [List.cons_append]
        | some e => simp only [he]
/-- Places rise, and lie within the text. -/
theorem raw_rise : ∀ (k : Nat) {l : List UInt8} {E : Nat}, l.length ≤ E → (∀ x ∈ (rawF k l E).toks, E - l.length ≤ x.2 ∧ x.2 < E) ∧ (rawF k l E).toks.Pairwise (fun a b => a.2 < b.2) ∧ ((rawF k l E).err = none → (rawF k l E).p = E) ∧ (rawF k l E).p ≤ E ∧ ∀ x ∈ (rawF k l E).toks, x.2 < (rawF k l E).p
  | 0, l, E, h => by simp [rawF]
  | k + 1, l, E, h => by
    cases hs : skipA false l with
    | nil => rw [raw_nil hs]; simp
    | cons c r =>
      have h1 := skip_len l false
      rw [hs, List.length_cons] at h1
      cases ht : tokL (c :: r) with
      | error e => rw [raw_err hs ht]; simp
      | ok z =>
        obtain ⟨t, n⟩ := z
        have hl := rest_len hs ht
        have hlr : ((c :: r).drop n).length = r.length + 1 - n := by simp
        obtain ⟨i1, i2, i3, i4, i5⟩ := raw_rise k (l := (c :: r).drop n) (E := E) (by omega)
        rw [raw_ok hs ht]
        refine ⟨fun x hx => ?_, ?_, i3, i4, fun x hx => ?_⟩
        · rcases List.mem_cons.1 hx with rfl | hx
          · simp only; omega
          · have := i1 x hx; omega
        · refine List.Pairwise.cons (fun x hx => ?_) i2
          have := i1 x hx; simp only; omega
        · rcases List.mem_cons.1 hx with rfl | hx
          · simp only
            cases he : (rawF k ((c :: r).drop n) E).err with
            | none => rw [i3 he]; omega
            | some e =>
              clear i1 i2 i3 i4 i5
              -- an error lies behind
              have key : ∀ (k : Nat) (l : List UInt8), l.length ≤ E → E - l.length ≤ (rawF k l E).p := by
                intro k
                induction k with
                | zero => intro l _; simp [rawF]
                | succ k ih =>
                  intro l hlE
                  cases hs' : skipA false l with
                  | nil => rw [raw_nil hs']; simp
                  | cons c' r' =>
                    have h1' := skip_len l false
                    rw [hs', List.length_cons] at h1'
                    cases ht' : tokL (c' :: r') with
                    | error e' => rw [raw_err hs' ht']; simp only; omega
                    | ok z' =>
                      obtain ⟨t', n'⟩ := z'
                      have hl' := rest_len hs' ht'
                      rw [raw_ok hs' ht']
                      have := ih ((c' :: r').drop n') (by omega)
                      simp only; omega
              have := key k ((c :: r).drop n) (by omega)
              omega
          · exact i5 x hx
/-- A text that is cut where a token begins. -/
theorem raw_cut : ∀ (k : Nat) {k' : Nat} {l : List UInt8} {E j : Nat} {t : Tk} {p : Nat}, l.length ≤ E → (rawF k l E).toks[j]? = some (t, p) → l.length < k' → rawF k' (l.take (l.length - (E - p))) p = ⟨(rawF k l E).toks.take j, none, p⟩
  | 0, _, l, E, j, t, p, _, h, _ => by simp [rawF] at h
  | k + 1, 0, l, E, j, t, p, _, _, h => by omega
  | k + 1, k' + 1, l, E, j, t, p, hE, h, hk' => by
    cases hs : skipA false l with
    | nil => rw [raw_nil hs] at h; simp at h
    | cons c r =>
      have h1 := skip_len l false
      rw [hs, List.length_cons] at h1
      cases ht : tokL (c :: r) with
      | error e => rw [raw_err hs ht] at h; simp at h
      | ok z =>
        obtain ⟨t0, n⟩ := z
        have hl := rest_len hs ht
        have hlr : ((c :: r).drop n).length = r.length + 1 - n := by simp
        rw [raw_ok hs ht] at h ⊢
        cases j with
        | zero =>
          obtain ⟨-, rfl⟩ := Prod.mk.inj (Option.some.inj h)
          have hsk := skip_take l false (l.length - (r.length + 1)) (by rw [hs, List.length_cons]; omega)
          rw [hs, List.length_cons, Nat.sub_self, List.take_zero] at hsk
          rw [show l.length - (E - (E - (r.length + 1))) = l.length - (r.length + 1) by omega, raw_nil hsk]
          simp
        | succ j =>
          have h' : (rawF k ((c :: r).drop n) E).toks[j]? = some (t, p) := by simpa using h
          have hb := (raw_rise k (l := (c :: r).drop n) (E := E) (by omega)).1 (t, p) (List.mem_of_getElem? h')
          simp only at hb
          have hsk := skip_take l false (l.length - (E - p)) (by rw [hs, List.length_cons]; omega)
          rw [hs, List.length_cons, show l.length - (E - p) - (l.length - (r.length + 1)) = (r.length - (E - p)) + 1 by omega, List.take_succ_cons] at hsk
          have htk := tok_take (r.length - (E - p)) ht (by omega)
          rw [raw_ok hsk htk]
          have hd : (c :: r.take (r.length - (E - p))).drop n = ((c :: r).drop n).take (((c :: r).drop n).length - (E - p)) := by
            rw [show c :: r.take (r.length - (E - p)) = (c :: r).take (r.length - (E - p) + 1) from rfl, List.drop_take]
            congr 1; omega
          have ih := raw_cut k (k' := k') (l := (c :: r).drop n) (E := E) (by omega) h' (by omega)
          rw [hd, ih]
          simp only [List.take_succ_cons, Raw.mk.injEq, List.cons.injEq, Prod.mk.injEq, true_and, and_true, List.length_take]
          omega
/-- Blanks and a comment are put in where a token begins, or at the end. -/
theorem raw_ins : ∀ (k : Nat) {k' : Nat} {l : List UInt8} {E j d : Nat}, l.length ≤ E → l.length < k → ((∃ t, (rawF k l E).toks[j]? = some (t, E - d) ∧ d ≤ l.length) ∨ (j = (rawF k l E).toks.length ∧ (rawF k l E).err = none ∧ d = 0)) → l.length + 7 < k' →
    rawF k' (l.take (l.length - d) ++ (insU ++ l.drop (l.length - d))) (E + 7) = ⟨(rawF k l E).toks.take j ++ ((rawF k l E).toks.drop j).map (fun x => (x.1, x.2 + 7)), (rawF k l E).err, (if (rawF k l E).err = none then (rawF k l E).p + 7 else (rawF k l E).p + 7)⟩
  | 0, _, l, E, j, d, _, h, _, _ => by omega
  | k + 1, 0, l, E, j, d, _, _, _, h => by omega
  | k + 1, k' + 1, l, E, j, d, hE, hk, h, hk' => by
    -- at the place itself
    have here : ∀ (k' : Nat) (y : List UInt8), skipA false l = y → y.length = d → l.length + 7 < k' + 1 → rawF (k' + 1) (l.take (l.length - d) ++ (insU ++ l.drop (l.length - d))) (E + 7) = (rawF (k + 1) l E).up 7 := by
      intro k' y hs hy hk'
      have hsl := skip_len l false
      have hsk := skip_take l false (l.length - d) (by rw [hs, hy]; omega)
      rw [hs, hy, Nat.sub_self, List.take_zero] at hsk
      have hdr := skip_drop l false
      rw [hs, hy] at hdr
      rw [← hdr]
      have hid := skip_idem l false
      rw [hs] at hid
      have e1 := skip_ins y _ _ hsk
      rw [hid] at e1
      have e2 : rawF (k' + 1) (l.take (l.length - d) ++ (insU ++ y)) (E + 7) = rawF (k' + 1) l (E + 7) := by
        conv => lhs; unfold rawF
        conv => rhs; unfold rawF
        rw [e1, hs]
      rw [e2, raw_up 7 _ hE, raw_fuel (k' + 1) (k' := k + 1) (by omega) hk]
    cases hs : skipA false l with
    | nil =>
      have hr : rawF (k + 1) l E = ⟨[], none, E⟩ := raw_nil hs
      have hd : d = 0 ∧ j = 0 := by
        rw [hr] at h
        rcases h with ⟨t, h, _⟩ | ⟨h1, _, h2⟩
        · simp at h
        · exact ⟨h2, h1⟩
      obtain ⟨rfl, rfl⟩ := hd
      rw [here k' [] hs rfl (by omega), hr]
      simp [Raw.up]
    | cons c r =>
      have h1 := skip_len l false
      rw [hs, List.length_cons] at h1
      cases ht : tokL (c :: r) with
      | error e =>
        have hr := raw_err (k := k) (E := E) hs ht
        rw [hr] at h
        rcases h with ⟨t, h, _⟩ | ⟨h1, h2, _⟩
        · simp at h
        · cases h2
      | ok z =>
        obtain ⟨t0, n⟩ := z
        have hl := rest_len hs ht
        have hlr : ((c :: r).drop n).length = r.length + 1 - n := by simp
        have hr := raw_ok (k := k) (E := E) hs ht
        cases j with
        | zero =>
          have hd : d = r.length + 1 := by
            rw [hr] at h
            rcases h with ⟨t, h, h2⟩ | ⟨h1, _, _⟩
            · have := (Prod.mk.inj (Option.some.inj h)).2
              omega
            · simp at h1
          rw [here k' (c :: r) hs (by simp [hd]) (by omega), hr]
          simp [Raw.up]
        | succ j =>
          have h' : (∃ t, (rawF k ((c :: r).drop n) E).toks[j]? = some (t, E - d) ∧ d ≤ ((c :: r).drop n).length) ∨ (j = (rawF k ((c :: r).drop n) E).toks.length ∧ (rawF k ((c :: r).drop n) E).err = none ∧ d = 0) := by
            rw [hr] at h
            rcases h with ⟨t, h, h2⟩ | ⟨h1, h2, h3⟩
            · have h' : (rawF k ((c :: r).drop n) E).toks[j]? = some (t, E - d) := by simpa using h
              have hb := (raw_rise k (l := (c :: r).drop n) (E := E) (by omega)).1 _ (List.mem_of_getElem? h')
              simp only at hb
              exact .inl ⟨t, h', by omega⟩
            · exact .inr ⟨by simpa using h1, h2, h3⟩
          have hd : d ≤ ((c :: r).drop n).length := by
            rcases h' with ⟨t, _, h2⟩ | ⟨_, _, rfl⟩
            · exact h2
            · omega
          have ih := raw_ins k (k' := k') (l := (c :: r).drop n) (E := E) (j := j) (d := d) (by omega) (by omega) h' (by omega)
          -- the text begins as before
          have hdr := skip_drop l false
          rw [hs, List.length_cons] at hdr
          have hsplit : l.take (l.length - d) = l.take (l.length - (r.length + 1)) ++ c :: r.take (r.length - d) := by
            rw [show l.length - d = (l.length - (r.length + 1)) + (r.length + 1 - d) by omega, List.take_add, ← hdr, show r.length + 1 - d = (r.length - d) + 1 by omega, List.take_succ_cons]
          have hdrop : l.drop (l.length - d) = ((c :: r).drop n).drop (((c :: r).drop n).length - d) := by
            rw [hlr, hdr, List.drop_drop, List.drop_drop]
            congr 1; omega
          have hsk0 := skip_take l false (l.length - d) (by rw [hs, List.length_cons]; omega)
          rw [hs, List.length_cons, show l.length - d - (l.length - (r.length + 1)) = (r.length - d) + 1 by omega, List.take_succ_cons] at hsk0
          -- what is passed over is passed over, whatever comes behind the token
          have hsk : skipA false (l.take (l.length - d) ++ (insU ++ l.drop (l.length - d))) = c :: (r.take (r.length - d) ++ (insU ++ l.drop (l.length - d))) := by
            have gen : ∀ (y m : List UInt8) (b : Bool) (c : UInt8) (r : List UInt8), skipA b m = c :: r → skipA b (m ++ (insU ++ y)) = c :: (r ++ (insU ++ y)) := by
              intro y m
              induction m with
              | nil => intro b c r h; cases b <;> simp [skipA] at h
              | cons x m ih =>
                intro b c r h
                rw [List.cons_append]
                have hsl : slashed (m ++ (insU ++ y)) = slashed m := by
                  cases m with
                  | nil => simp [slashed, insU]
                  | cons x m => rfl
                cases b with
                | true =>
                  rw [skipA_t] at h ⊢
                  cases hc : x.toNat == 10
                  · simp only [hc, cond_false] at h ⊢; exact ih _ _ _ h
                  · simp only [hc, cond_true] at h ⊢; exact ih _ _ _ h
                | false =>
                  rw [skipA_f] at h ⊢
                  rw [hsl]
                  cases hb : blU x
                  · cases h2 : (x.toNat == 47 && slashed m)
                    · simp only [hb, h2, cond_false] at h ⊢
                      obtain ⟨rfl, rfl⟩ := List.cons.inj h
                      rfl
                    · simp only [hb, h2, cond_false, cond_true] at h ⊢; exact ih _ _ _ h
                  · simp only [hb, cond_true] at h ⊢; exact ih _ _ _ h
            exact gen _ _ _ _ _ hsk0
          have htk : tokL (c :: (r.take (r.length - d) ++ (insU ++ l.drop (l.length - d)))) = .ok (t0, n) := by
            have := tok_take (r.length - d) ht (by omega)
            exact tok_tab _ this
          rw [raw_ok hsk htk, hr]
          have hd2 : (c :: (r.take (r.length - d) ++ (insU ++ l.drop (l.length - d)))).drop n = ((c :: r).drop n).take (((c :: r).drop n).length - d) ++ (insU ++ ((c :: r).drop n).drop (((c :: r).drop n).length - d)) := by
            rw [← hdrop, show c :: (r.take (r.length - d) ++ (insU ++ l.drop (l.length - d))) = (c :: r).take (r.length - d + 1) ++ (insU ++ l.drop (l.length - d)) from rfl]
            rw [drop_app _ _ _ (by simp only [List.length_take, List.length_cons]; omega), List.drop_take]
            congr 2; omega
          rw [hd2, ih]
          simp only [List.take_succ_cons, List.drop_succ_cons, List.cons_append, Raw.mk.injEq, List.cons.injEq, Prod.mk.injEq, true_and, and_true, List.length_append, List.length_take, List.length_drop, insU, List.length_cons, List.length_nil]
          omega
end Go.Lx

namespace Go.Pv
open Go.Lx
set_option maxRecDepth 20000
theorem w64 (n : Int) (h : -9223372036854775808 ≤ n ∧ n ≤ 9223372036854775807) : IntKind.i64.wrap n = n := by
  simp only [IntKind.wrap, IntKind.signed, IntKind.bits]
  simp
  omega
theorem gd_pos {R : Type} {c : Bool} {x : Option R} (h : c = true) : gd c x = x := by rw [h]; rfl
theorem inB_pos {i : Int} {n : Nat} (h : 0 ≤ i ∧ i < n) : inB i n = true := by
  unfold inB; rw [decide_eq_true h.1, decide_eq_true h.2]; rfl
theorem blt_pos {i n : Nat} (h : i < n) : Nat.blt i n = true := Nat.ble_eq_true_of_le h
theorem toNat_nat (i : Nat) : ((i : Int)).toNat = i := rfl
theorem w_succ (i : Nat) (h : (i : Int) + 1 ≤ 9223372036854775807) : IntKind.i64.wrap ((i : Int) + 1) = ((i + 1 : Nat) : Int) := by rw [w64 _ (by omega)]; simp
theorem w_add (i j : Nat) (h : (i : Int) + j ≤ 9223372036854775807) : IntKind.i64.wrap ((i : Int) + j) = ((i + j : Nat) : Int) := by rw [w64 _ (by omega)]; simp
theorem NN_pos : ∃ m, NN = m + 1 ∧ 4611686018427387903 ≤ m := ⟨NN - 1, by have := le_NN; omega, by have := le_NN; omega⟩
theorem lim_pos {n : Nat} (h : n ≤ 1099511627776) : Nat.ble n lim = true := Nat.ble_eq_true_of_le h
theorem toList_loop (bs : ByteArray) : ∀ (n i : Nat) (r : List UInt8), bs.size - i = n → ByteArray.toList.loop bs i r = r.reverse ++ bs.data.toList.drop i := by
  intro n
  induction n with
  | zero =>
    intro i r h
    unfold ByteArray.toList.loop
    rw [if_neg (by omega), List.drop_eq_nil_of_le (by have : bs.data.size = bs.size := rfl; simp; omega), List.append_nil]
  | succ n ih =>
    intro i r h
    unfold ByteArray.toList.loop
    have hi : i < bs.data.toList.length := by have : bs.data.size = bs.size := rfl; simp; omega
    rw [if_pos (by omega), ih (i + 1) _ (by omega), List.reverse_cons, List.drop_eq_getElem_cons hi, List.append_assoc]
    rw [List.singleton_append]
    have e : bs.get! i = bs.data.toList[i] := by
      show bs.data[i]! = _
      rw [getElem!_pos bs.data i (by simpa using hi)]
      exact (Array.getElem_toList (by simpa using hi)).symm
    rw [e]
theorem toList_data (bs : ByteArray) : bs.toList = bs.data.toList := by
  unfold ByteArray.toList
  rw [toList_loop bs _ 0 [] rfl]; simp
theorem data_len (s : ByteArray) : s.data.toList.length = s.size := Array.length_toList
/-- The text from a place on. -/
abbrev Lx (s : ByteArray) (p : Nat) : List UInt8 := s.data.toList.drop p
theorem Lx_len (s : ByteArray) (p : Nat) : (Lx s p).length = s.size - p := by rw [List.length_drop, data_len]
theorem Lx_nil {s : ByteArray} {p : Nat} (h : s.size ≤ p) : Lx s p = [] := List.drop_eq_nil_of_le (by rw [data_len]; exact h)
theorem Lx_cons {s : ByteArray} {p : Nat} (h : p < s.size) : ∃ c : UInt8, Lx s p = c :: Lx s (p + 1) ∧ bt s p = (c.toNat : Int) := by
  have hl : p < s.data.toList.length := by rw [data_len]; exact h
  refine ⟨s.data.toList[p], List.drop_eq_getElem_cons hl, ?_⟩
  unfold bt
  rw [List.getD_eq_getElem?_getD, List.getElem?_eq_getElem hl]; rfl
theorem ext_data (s : ByteArray) (p q : Nat) : (s.extract p q).data.toList = (Lx s p).take (q - p) := by
  have : (s.extract p q).data = s.data.extract p q := by rw [ByteArray.data_extract]
  rw [this, Array.toList_extract, List.extract_eq_take_drop]
theorem bytes_eq {a b : ByteArray} (h : a.data.toList = b.data.toList) : a = b := by
  cases a; cases b
  congr 1
  exact Array.toList_inj.1 h
theorem ext_eq (s : ByteArray) (p q : Nat) : s.extract p q = ⟨((Lx s p).take (q - p)).toArray⟩ := bytes_eq (by rw [ext_data])
theorem ext_size (s : ByteArray) (p q : Nat) (h : q ≤ s.size) : (s.extract p q).size = q - p := by
  rw [← data_len, ext_data, List.length_take, Lx_len]; omega
theorem dge (n k : Nat) : decide ((n : Int) ≥ (k : Int)) = decide (k ≤ n) := decide_eq_decide.2 (by omega)
theorem dle (n k : Nat) : decide ((n : Int) ≤ (k : Int)) = decide (n ≤ k) := decide_eq_decide.2 (by omega)
theorem dlt (n k : Nat) : decide ((n : Int) < (k : Int)) = decide (n < k) := decide_eq_decide.2 (by omega)
theorem dgt (n k : Nat) : decide ((n : Int) > (k : Int)) = decide (k < n) := decide_eq_decide.2 (by omega)
theorem beqI (n k : Nat) : ((n : Int) == (k : Int)) = (n == k) := by
  cases h : n == k with
  | true => rw [eq_of_beq h]; simp
  | false =>
    have : n ≠ k := by simpa using h
    simp only [beq_eq_false_iff_ne]; omega
theorem small_f (c : UInt8) : Glex_small.f (c.toNat : Int) = some (smU c) := by
  unfold Glex_small.f smU
  rw [show (97 : Int) = ((97 : Nat) : Int) from rfl, show (122 : Int) = ((122 : Nat) : Int) from rfl, dge, dle]
theorem digit_f (c : UInt8) : Glex_digit.f (c.toNat : Int) = some (dgU c) := by
  unfold Glex_digit.f dgU
  rw [show (48 : Int) = ((48 : Nat) : Int) from rfl, show (57 : Int) = ((57 : Nat) : Int) from rfl, dge, dle]
theorem wordy_f (c : UInt8) : Glex_wordy.f (c.toNat : Int) = some (wdU c) := by
  unfold Glex_wordy.f wdU
  rw [small_f, Option.bind_some, digit_f, show (95 : Int) = ((95 : Nat) : Int) from rfl, beqI]
  cases smU c <;> simp
theorem hex_f (c : UInt8) : Glex_hex.f (c.toNat : Int) = some (hxU c) := by
  unfold Glex_hex.f hxU
  rw [digit_f, Option.bind_some, show (97 : Int) = ((97 : Nat) : Int) from rfl, show (102 : Int) = ((102 : Nat) : Int) from rfl, show (65 : Int) = ((65 : Nat) : Int) from rfl, show (70 : Int) = ((70 : Nat) : Int) from rfl, dge, dle, dge, dle]
/-- A scanner's state. -/
abbrev Sc := ByteArray × Int × List (D × D) × Unit
theorem run36_l (s : ByteArray) (hs : s.size ≤ 40000) (m : List (D × D)) (v : Int) (κ : (Sc × Int) → Option (ByteArray × Sc)) : ∀ (n p k : Nat), s.size - p ≤ n → n < k → p ≤ s.size →
    Glex_scanner__run_36.l28 k (s, (p : Int), m, ()) () v κ = κ ((s, ((p + ((Lx s p).takeWhile wdU).length : Nat) : Int), m, ()), v) := by
  intro n
  induction n with
  | zero =>
    intro p k h1 h2 h3
    obtain ⟨k, rfl⟩ : ∃ k', k = k' + 1 := ⟨k - 1, by omega⟩
    simp only [Glex_scanner__run_36.l28]
    have hd : decide ((p : Int) < (s.size : Int)) = false := decide_eq_false (by omega)
    rw [hd, Lx_nil (by omega)]
    rfl
  | succ n ih =>
    intro p k h1 h2 h3
    obtain ⟨k, rfl⟩ : ∃ k', k = k' + 1 := ⟨k - 1, by omega⟩
    simp only [Glex_scanner__run_36.l28]
    by_cases hp : p < s.size
    · obtain ⟨c, hc, hb⟩ := Lx_cons hp
      have hd : decide ((p : Int) < (s.size : Int)) = true := decide_eq_true (by omega)
      rw [hd, gd_pos (by rw [inB_pos ⟨by omega, by omega⟩]; rfl), toNat_nat, hb, cond_true, wordy_f, Option.bind_some, hc, List.takeWhile_cons, Bool.true_and]
      cases hg : wdU c with
      | true =>
        rw [cond_true, w_succ _ (by omega), ih (p + 1) k (by omega) (by omega) (by omega)]
        simp only [if_true, List.length_cons]
        rw [show p + 1 + ((Lx s (p + 1)).takeWhile wdU).length = p + (((Lx s (p + 1)).takeWhile wdU).length + 1) by omega]
      | false => simp
    · have hd : decide ((p : Int) < (s.size : Int)) = false := decide_eq_false (by omega)
      rw [hd, Lx_nil (by omega)]
      rfl
theorem run36_f (s : ByteArray) (hs : s.size ≤ 40000) (m : List (D × D)) (p : Nat) (hp : p ≤ s.size) :
    Glex_scanner__run_36.f (s, (p : Int), m, ()) () = some (⟨((Lx s p).takeWhile wdU).toArray⟩, (s, ((p + ((Lx s p).takeWhile wdU).length : Nat) : Int), m, ())) := by
  unfold Glex_scanner__run_36.f
  have hN := le_NN
  simp only
  rw [run36_l s hs m p _ s.size p NN (by omega) (by omega) hp]
  have hl := takeWhile_le wdU (Lx s p)
  rw [Lx_len] at hl
  simp only
  rw [gd_pos (by rw [decide_eq_true (show (0 : Int) ≤ (p : Int) by omega), decide_eq_true (show (p : Int) ≤ ((p + ((Lx s p).takeWhile wdU).length : Nat) : Int) by omega), decide_eq_true (show ((p + ((Lx s p).takeWhile wdU).length : Nat) : Int) ≤ (s.size : Int) by omega)]; rfl)]
  rw [toNat_nat, toNat_nat, ext_eq, show p + ((Lx s p).takeWhile wdU).length - p = ((Lx s p).takeWhile wdU).length by omega]
  have : (Lx s p).take ((Lx s p).takeWhile wdU).length = (Lx s p).takeWhile wdU := (List.prefix_iff_eq_take.1 (List.takeWhile_prefix _)).symm
  rw [this]
theorem run58_l (s : ByteArray) (hs : s.size ≤ 40000) (m : List (D × D)) (v : Int) (κ : (Sc × Int) → Option (ByteArray × Sc)) : ∀ (n p k : Nat), s.size - p ≤ n → n < k → p ≤ s.size →
    Glex_scanner__run_58.l28 k (s, (p : Int), m, ()) () v κ = κ ((s, ((p + ((Lx s p).takeWhile dgU).length : Nat) : Int), m, ()), v) := by
  intro n
  induction n with
  | zero =>
    intro p k h1 h2 h3
    obtain ⟨k, rfl⟩ : ∃ k', k = k' + 1 := ⟨k - 1, by omega⟩
    simp only [Glex_scanner__run_58.l28]
    have hd : decide ((p : Int) < (s.size : Int)) = false := decide_eq_false (by omega)
    rw [hd, Lx_nil (by omega)]
    rfl
  | succ n ih =>
    intro p k h1 h2 h3
    obtain ⟨k, rfl⟩ : ∃ k', k = k' + 1 := ⟨k - 1, by omega⟩
    simp only [Glex_scanner__run_58.l28]
    by_cases hp : p < s.size
    · obtain ⟨c, hc, hb⟩ := Lx_cons hp
      have hd : decide ((p : Int) < (s.size : Int)) = true := decide_eq_true (by omega)
      rw [hd, gd_pos (by rw [inB_pos ⟨by omega, by omega⟩]; rfl), toNat_nat, hb, cond_true, digit_f, Option.bind_some, hc, List.takeWhile_cons, Bool.true_and]
      cases hg : dgU c with
      | true =>
        rw [cond_true, w_succ _ (by omega), ih (p + 1) k (by omega) (by omega) (by omega)]
        simp only [if_true, List.length_cons]
        rw [show p + 1 + ((Lx s (p + 1)).takeWhile dgU).length = p + (((Lx s (p + 1)).takeWhile dgU).length + 1) by omega]
      | false => simp
    · have hd : decide ((p : Int) < (s.size : Int)) = false := decide_eq_false (by omega)
      rw [hd, Lx_nil (by omega)]
      rfl
theorem run58_f (s : ByteArray) (hs : s.size ≤ 40000) (m : List (D × D)) (p : Nat) (hp : p ≤ s.size) :
    Glex_scanner__run_58.f (s, (p : Int), m, ()) () = some (⟨((Lx s p).takeWhile dgU).toArray⟩, (s, ((p + ((Lx s p).takeWhile dgU).length : Nat) : Int), m, ())) := by
  unfold Glex_scanner__run_58.f
  have hN := le_NN
  simp only
  rw [run58_l s hs m p _ s.size p NN (by omega) (by omega) hp]
  have hl := takeWhile_le dgU (Lx s p)
  rw [Lx_len] at hl
  simp only
  rw [gd_pos (by rw [decide_eq_true (show (0 : Int) ≤ (p : Int) by omega), decide_eq_true (show (p : Int) ≤ ((p + ((Lx s p).takeWhile dgU).length : Nat) : Int) by omega), decide_eq_true (show ((p + ((Lx s p).takeWhile dgU).length : Nat) : Int) ≤ (s.size : Int) by omega)]; rfl)]
  rw [toNat_nat, toNat_nat, ext_eq, show p + ((Lx s p).takeWhile dgU).length - p = ((Lx s p).takeWhile dgU).length by omega]
  have : (Lx s p).take ((Lx s p).takeWhile dgU).length = (Lx s p).takeWhile dgU := (List.prefix_iff_eq_take.1 (List.takeWhile_prefix _)).symm
  rw [this]
theorem run85_l (s : ByteArray) (hs : s.size ≤ 40000) (m : List (D × D)) (v : Int) (κ : (Sc × Int) → Option (ByteArray × Sc)) : ∀ (n p k : Nat), s.size - p ≤ n → n < k → p ≤ s.size →
    Glex_scanner__run_85.l28 k (s, (p : Int), m, ()) () v κ = κ ((s, ((p + ((Lx s p).takeWhile hxU).length : Nat) : Int), m, ()), v) := by
  intro n
  induction n with
  | zero =>
    intro p k h1 h2 h3
    obtain ⟨k, rfl⟩ : ∃ k', k = k' + 1 := ⟨k - 1, by omega⟩
    simp only [Glex_scanner__run_85.l28]
    have hd : decide ((p : Int) < (s.size : Int)) = false := decide_eq_false (by omega)
    rw [hd, Lx_nil (by omega)]
    rfl
  | succ n ih =>
    intro p k h1 h2 h3
    obtain ⟨k, rfl⟩ : ∃ k', k = k' + 1 := ⟨k - 1, by omega⟩
    simp only [Glex_scanner__run_85.l28]
    by_cases hp : p < s.size
    · obtain ⟨c, hc, hb⟩ := Lx_cons hp
      have hd : decide ((p : Int) < (s.size : Int)) = true := decide_eq_true (by omega)
      rw [hd, gd_pos (by rw [inB_pos ⟨by omega, by omega⟩]; rfl), toNat_nat, hb, cond_true, hex_f, Option.bind_some, hc, List.takeWhile_cons, Bool.true_and]
      cases hg : hxU c with
      | true =>
        rw [cond_true, w_succ _ (by omega), ih (p + 1) k (by omega) (by omega) (by omega)]
        simp only [if_true, List.length_cons]
        rw [show p + 1 + ((Lx s (p + 1)).takeWhile hxU).length = p + (((Lx s (p + 1)).takeWhile hxU).length + 1) by omega]
      | false => simp
    · have hd : decide ((p : Int) < (s.size : Int)) = false := decide_eq_false (by omega)
      rw [hd, Lx_nil (by omega)]
      rfl
theorem run85_f (s : ByteArray) (hs : s.size ≤ 40000) (m : List (D × D)) (p : Nat) (hp : p ≤ s.size) :
    Glex_scanner__run_85.f (s, (p : Int), m, ()) () = some (⟨((Lx s p).takeWhile hxU).toArray⟩, (s, ((p + ((Lx s p).takeWhile hxU).length : Nat) : Int), m, ())) := by
  unfold Glex_scanner__run_85.f
  have hN := le_NN
  simp only
  rw [run85_l s hs m p _ s.size p NN (by omega) (by omega) hp]
  have hl := takeWhile_le hxU (Lx s p)
  rw [Lx_len] at hl
  simp only
  rw [gd_pos (by rw [decide_eq_true (show (0 : Int) ≤ (p : Int) by omega), decide_eq_true (show (p : Int) ≤ ((p + ((Lx s p).takeWhile hxU).length : Nat) : Int) by omega), decide_eq_true (show ((p + ((Lx s p).takeWhile hxU).length : Nat) : Int) ≤ (s.size : Int) by omega)]; rfl)]
  rw [toNat_nat, toNat_nat, ext_eq, show p + ((Lx s p).takeWhile hxU).length - p = ((Lx s p).takeWhile hxU).length by omega]
  have : (Lx s p).take ((Lx s p).takeWhile hxU).length = (Lx s p).takeWhile hxU := (List.prefix_iff_eq_take.1 (List.takeWhile_prefix _)).symm
  rw [this]
end Go.Pv

namespace Go.Pv
open Go.Lx
set_option maxRecDepth 20000
theorem hasPrefix_f (a b : ByteArray) : Gstrings_HasPrefix.f a b = some (b.data.toList.isPrefixOf a.data.toList) := by
  unfold Gstrings_HasPrefix.f Ginternal_stringslite_HasPrefix.f
  rw [dge]
  by_cases h : b.size ≤ a.size
  · rw [decide_eq_true h, decide_eq_true (show (0 : Int) ≤ (b.size : Int) by omega)]
    simp only [Bool.not_true, Bool.false_or, Bool.and_self, Bool.true_and]
    rw [gd_pos rfl, Option.bind_some, toNat_nat, toList_data, toList_data, ext_data]
    congr 1
    rw [Bool.eq_iff_iff, beq_iff_eq, List.isPrefixOf_iff_prefix, List.prefix_iff_eq_take, data_len]
    simp only [List.drop_zero, Nat.sub_zero]
    exact eq_comm
  · rw [decide_eq_false h]
    simp only [Bool.not_false, Bool.true_or, Bool.false_and]
    rw [gd_pos rfl, Option.bind_some]
    congr 1
    cases hp : b.data.toList.isPrefixOf a.data.toList with
    | false => rfl
    | true =>
      have := (List.isPrefixOf_iff_prefix.1 hp).length_le
      rw [data_len, data_len] at this
      omega
theorem skip_true_none : ∀ (l : List UInt8), (∀ k : Nat, l[k]? ≠ some 10) → skipA true l = []
  | [], _ => by simp [skipA]
  | c :: r, h => by
    have hc : c ≠ 10 := fun e => h 0 (by simp [e])
    have hb : (c.toNat == 10) = false := by
      rw [beq_eq_false_iff_ne]
      exact fun e => hc (UInt8.toNat_inj.1 e)
    rw [skipA_t, hb, cond_false]
    exact skip_true_none r fun k hk => h (k + 1) (by simpa using hk)
theorem skip_true_some : ∀ (l : List UInt8) (o : Nat), l[o]? = some 10 → (∀ k : Nat, k < o → l[k]? ≠ some 10) → skipA true l = skipA false (l.drop o)
  | [], o, h, _ => by simp at h
  | c :: r, 0, h, _ => by
    obtain rfl : c = 10 := by simpa using h
    rw [List.drop_zero, skipA_t, skipA_f]
    rfl
  | c :: r, o + 1, h, hk => by
    have hc : c ≠ 10 := fun e => hk 0 (by omega) (by simp [e])
    have hb : (c.toNat == 10) = false := by
      rw [beq_eq_false_iff_ne]
      exact fun e => hc (UInt8.toNat_inj.1 e)
    rw [skipA_t, hb, cond_false, List.drop_succ_cons]
    exact skip_true_some r o (by simpa using h) fun k h1 h2 => hk (k + 1) (by omega) (by simpa using h2)
theorem prefix_slashes (c : UInt8) (r : List UInt8) : ([47, 47] : List UInt8).isPrefixOf (c :: r) = (c.toNat == 47 && slashed r) := by
  have e : ∀ x : UInt8, ((47 : UInt8) == x) = (x.toNat == 47) := fun x => by
    rw [Bool.eq_iff_iff, beq_iff_eq, beq_iff_eq]
    exact ⟨fun h => by rw [← h]; rfl, fun h => UInt8.toNat_inj.1 (by rw [h]; rfl)⟩
  cases r with
  | nil => simp [List.isPrefixOf, slashed]
  | cons x r => simp only [List.isPrefixOf, slashed, e, Bool.and_true]
theorem skip_l (s : ByteArray) (hs : s.size ≤ 40000) (m : List (D × D)) : ∀ (n p k : Nat), s.size - p ≤ n → n < k → p ≤ s.size →
    Glex_scanner__skip.l2 k (s, (p : Int), m, ()) (fun y => some (y.1, y.2.1, y.2.2.1, ())) = some (s, ((s.size - (skipA false (Lx s p)).length : Nat) : Int), m, ()) := by
  intro n
  induction n with
  | zero =>
    intro p k h1 h2 h3
    obtain ⟨k, rfl⟩ : ∃ k', k = k' + 1 := ⟨k - 1, by omega⟩
    simp only [Glex_scanner__skip.l2]
    rw [decide_eq_false (show ¬ (p : Int) < (s.size : Int) by omega), Lx_nil (by omega), show p = s.size by omega]
    simp [skipA]
  | succ n ih =>
    intro p k h1 h2 h3
    obtain ⟨k, rfl⟩ : ∃ k', k = k' + 1 := ⟨k - 1, by omega⟩
    simp only [Glex_scanner__skip.l2]
    by_cases hp : p < s.size
    · obtain ⟨c, hc, hb⟩ := Lx_cons hp
      rw [decide_eq_true (show (p : Int) < (s.size : Int) by omega), cond_true, gd_pos (inB_pos ⟨by omega, by omega⟩), toNat_nat, hb]
      have hbl : (((c.toNat : Int) == 32) || ((c.toNat : Int) == 9) || ((c.toNat : Int) == 10)) = blU c := by
        rw [show (32 : Int) = ((32 : Nat) : Int) from rfl, show (9 : Int) = ((9 : Nat) : Int) from rfl, show (10 : Int) = ((10 : Nat) : Int) from rfl, beqI, beqI, beqI, Bool.or_assoc]
        rfl
      rw [hbl]
      cases hB : blU c with
      | true =>
        rw [cond_true, w_succ _ (by omega), ih (p + 1) k (by omega) (by omega) (by omega), hc, skipA_f, hB, cond_true]
      | false =>
        rw [cond_false]
        have hg : (decide ((0 : Int) ≤ (p : Int)) && decide ((p : Int) ≤ (s.size : Int))) = true := by
          rw [decide_eq_true (show (0 : Int) ≤ (p : Int) by omega), decide_eq_true (show (p : Int) ≤ (s.size : Int) by omega)]; rfl
        rw [gd_pos hg, gd_pos hg, hasPrefix_f, Option.bind_some]
        have hex : (s.extract p s.size).data.toList = Lx s p := by
          rw [ext_data, List.take_of_length_le (by rw [Lx_len]; omega)]
        have hpre : str2f2f.data.toList.isPrefixOf (s.extract p s.size).data.toList = (c.toNat == 47 && slashed (Lx s (p + 1))) := by
          rw [hex, hc, ← prefix_slashes]; rfl
        rw [hpre]
        cases hS : (c.toNat == 47 && slashed (Lx s (p + 1))) with
        | false =>
          rw [cond_false]
          have e : skipA false (Lx s p) = Lx s p := by rw [hc, skipA_f, hB, hS]; rfl
          rw [e, Lx_len, show s.size - (s.size - p) = p by omega]
        | true =>
          rw [cond_true]
          have hT : skipA false (Lx s p) = skipA true (Lx s p) := by
            rw [Bool.and_eq_true] at hS
            have h10 : (c.toNat == 10) = false := by
              have := hS.1
              rw [beq_iff_eq] at this
              rw [this]; rfl
            rw [hc, skipA_f, hB, skipA_t, h10]
            simp only [cond_false]
            rw [Bool.and_eq_true] at *
            rw [hS.1, hS.2]; rfl
          unfold Gstrings_IndexByte.f
          rw [Option.bind_some, hex, hT]
          have h10' : (10 : Int).toNat.toUInt8 = (10 : UInt8) := rfl
          rw [h10']
          have hge := Lib.indexByte_ge (Lx s p) 10
          by_cases hneg : Lib.indexByte (Lx s p) 10 = -1
          · rw [hneg, decide_eq_true (show (-1 : Int) < 0 by omega), cond_true]
            simp only [Glex_scanner__skip.p4795]
            rw [w64 ((s.size : Int) - (p : Int)) (by omega), w64 _ (by omega), show (p : Int) + ((s.size : Int) - (p : Int)) = (s.size : Int) by omega, ih s.size k (by omega) (by omega) (by omega), Lx_nil (Nat.le_refl _), skip_true_none _ (Lib.indexByte_none hneg)]
            simp [skipA]
          · obtain ⟨o, ho⟩ : ∃ o : Nat, Lib.indexByte (Lx s p) 10 = o := ⟨(Lib.indexByte (Lx s p) 10).toNat, by omega⟩
            rw [ho, decide_eq_false (show ¬ (o : Int) < 0 by omega), cond_false]
            simp only [Glex_scanner__skip.p4795]
            obtain ⟨q1, q2⟩ := Lib.indexByte_some ho
            have hol : o < s.size - p := by
              have := (List.getElem?_eq_some_iff.1 q1).1
              rw [Lx_len] at this; exact this
            have ho1 : 1 ≤ o := by
              rcases Nat.eq_zero_or_pos o with h0 | h0
              · subst h0
                rw [hc] at q1
                obtain rfl : c = 10 := by simpa using q1
                cases hB
              · exact h0
            rw [w_add _ _ (by omega), ih (p + o) k (by omega) (by omega) (by omega), skip_true_some _ o q1 q2, List.drop_drop]
    · rw [decide_eq_false (show ¬ (p : Int) < (s.size : Int) by omega), Lx_nil (by omega), show p = s.size by omega]
      simp [skipA]
theorem skip_f (s : ByteArray) (hs : s.size ≤ 40000) (m : List (D × D)) (p : Nat) (hp : p ≤ s.size) :
    Glex_scanner__skip.f (s, (p : Int), m, ()) = some (s, ((s.size - (skipA false (Lx s p)).length : Nat) : Int), m, ()) := by
  unfold Glex_scanner__skip.f
  have := le_NN
  exact skip_l s hs m s.size p NN (by omega) (by omega) hp
/-- The bytes behind the mark of an escape. -/
theorem esc_index (c : UInt8) : (Lib.indexByte str6e74732a2722.data.toList c = -1 ∧ escU c = none) ∨ ∃ (o : Nat) (x : UInt8), Lib.indexByte str6e74732a2722.data.toList c = o ∧ o < 6 ∧ escU c = some x ∧ bt str0a09202a2722 o = (x.toNat : Int) := by
  have key : ∀ c : Fin 256, (Lib.indexByte str6e74732a2722.data.toList (UInt8.ofNat c.val) = -1 ∧ escU (UInt8.ofNat c.val) = none) ∨ ((Lib.indexByte str6e74732a2722.data.toList (UInt8.ofNat c.val)).toNat < 6 ∧ 0 ≤ Lib.indexByte str6e74732a2722.data.toList (UInt8.ofNat c.val) ∧ escU (UInt8.ofNat c.val) = some (UInt8.ofNat (bt str0a09202a2722 (Lib.indexByte str6e74732a2722.data.toList (UInt8.ofNat c.val)).toNat).toNat) ∧ bt str0a09202a2722 (Lib.indexByte str6e74732a2722.data.toList (UInt8.ofNat c.val)).toNat = ((UInt8.ofNat (bt str0a09202a2722 (Lib.indexByte str6e74732a2722.data.toList (UInt8.ofNat c.val)).toNat).toNat).toNat : Int)) := by decide
  have hc := key ⟨c.toNat, c.toNat_lt⟩
  simp only [UInt8.ofNat_toNat] at hc
  rcases hc with h | ⟨h1, h2, h3, h4⟩
  · exact .inl h
  · exact .inr ⟨_, _, by omega, h1, h3, h4⟩
theorem char_f (s : ByteArray) (hs : s.size ≤ 40000) (m : List (D × D)) (p : Nat) (hp : p ≤ s.size) (q : Nat) :
    (∃ x n, charL q (Lx s p) = some (x, n) ∧ Glex_scanner__char.f (s, (p : Int), m, ()) (q : Int) = some ((x.toNat : Int), true, (s, ((p + n : Nat) : Int), m, ()))) ∨
    (charL q (Lx s p) = none ∧ ∃ p' : Nat, p' ≤ s.size ∧ Glex_scanner__char.f (s, (p : Int), m, ()) (q : Int) = some (0, false, (s, (p' : Int), m, ()))) := by
  unfold Glex_scanner__char.f
  simp only
  by_cases hlt : p < s.size
  · obtain ⟨c, hc, hb⟩ := Lx_cons hlt
    rw [decide_eq_false (show ¬ (p : Int) ≥ (s.size : Int) by omega), cond_false, gd_pos (inB_pos ⟨by omega, by omega⟩), toNat_nat, hb, hc]
    rw [show (32 : Int) = ((32 : Nat) : Int) from rfl, show (126 : Int) = ((126 : Nat) : Int) from rfl, show (42 : Int) = ((42 : Nat) : Int) from rfl, dlt, dgt, beqI, w_succ _ (by omega)]
    have hne : ((c.toNat : Int) != ((42 : Nat) : Int)) = !(c.toNat == 42) := by rw [bne, beqI]
    rw [hne]
    unfold charL
    simp only
    by_cases hbad : c.toNat < 32 ∨ 126 < c.toNat ∨ c.toNat = q
    · rw [if_pos hbad]
      refine .inr ⟨rfl, p + 1, by omega, ?_⟩
      have : (decide (c.toNat < 32) || decide (126 < c.toNat) || (c.toNat == q)) = true := by
        simp only [Bool.or_eq_true, decide_eq_true_eq, beq_iff_eq]; omega
      rw [this, cond_true]
    · rw [if_neg hbad]
      have : (decide (c.toNat < 32) || decide (126 < c.toNat) || (c.toNat == q)) = false := by
        rw [Bool.eq_false_iff]
        simp only [ne_eq, Bool.or_eq_true, decide_eq_true_eq, beq_iff_eq]; omega
      rw [this, cond_false]
      by_cases h42 : c.toNat = 42
      · rw [if_pos h42, h42]
        simp only [beq_self_eq_true, Bool.not_true, cond_false]
        by_cases hlt2 : p + 1 < s.size
        · obtain ⟨e, he, heb⟩ := Lx_cons hlt2
          rw [decide_eq_false (show ¬ ((p + 1 : Nat) : Int) ≥ (s.size : Int) by omega), cond_false, gd_pos (inB_pos ⟨by omega, by omega⟩), toNat_nat, heb, he]
          unfold Gstrings_IndexByte.f
          have hc8 : ((e.toNat : Int)).toNat.toUInt8 = e := by rw [toNat_nat]; exact UInt8.ofNat_toNat
          rw [Option.bind_some, hc8, w_succ _ (by omega)]
          dsimp only
          rcases esc_index e with ⟨h1, h2⟩ | ⟨o, x, h1, h2, h3, h4⟩
          · rw [h1, h2, decide_eq_true (show (-1 : Int) < 0 by omega), cond_true]
            exact .inr ⟨rfl, p + 1 + 1, by omega, rfl⟩
          · rw [h1, h3, decide_eq_false (show ¬ (o : Int) < 0 by omega), cond_false, gd_pos (inB_pos ⟨by omega, by rw [show str0a09202a2722.size = 6 from rfl]; omega⟩), toNat_nat, h4]
            exact .inl ⟨x, 2, rfl, rfl⟩
        · rw [decide_eq_true (show ((p + 1 : Nat) : Int) ≥ (s.size : Int) by omega), cond_true, Lx_nil (by omega)]
          exact .inr ⟨rfl, p + 1, by omega, rfl⟩
      · rw [if_neg h42]
        have : (c.toNat == 42) = false := by rw [beq_eq_false_iff_ne]; exact h42
        rw [this]
        exact .inl ⟨c, 1, rfl, rfl⟩
  · rw [decide_eq_true (show (p : Int) ≥ (s.size : Int) by omega), cond_true, Lx_nil (by omega)]
    exact .inr ⟨rfl, p, hp, rfl⟩
end Go.Pv

namespace Go.Pv
open Go.Lx
set_option maxRecDepth 20000
abbrev toD (l : List UInt8) : D := .s ⟨l.toArray⟩
theorem toD_size (l : List UInt8) : (⟨l.toArray⟩ : ByteArray).size = l.length := by
  show l.toArray.size = _
  simp
/-- A token as data. -/
abbrev tkD (t : Tk) (p : Nat) : D := .r [.i t.kind, toD t.s, .i t.n, .i (p : Nat)]
/-- What a method of the scanner answers of the token at p. -/
def TokOk (s : ByteArray) (m : List (D × D)) (p : Nat) (res : Option (D × Int × Sc)) : Except Int (Tk × Nat) → Prop
  | .ok (t, n) => res = some (tkD t p, 0, (s, ((p + n : Nat) : Int), m, ()))
  | .error e => e ≠ 0 ∧ ∃ (d : D) (p' : Int), res = some (d, e, (s, p', m, ())) ∧ (d.cell 3).int = p
/-! ### The set of the keys -/
theorem keys_fields : Gstrings_Fields.f strhec28f7c6b9b145d9 = some (keysU.map toD) := by kernel_rfl
theorem signs_fields : Gstrings_Fields.f strh31e994760f40ef52 = some (signsU.map toD) := by kernel_rfl
def keyM : List (D × D) := (keysU.map fun l => (toD l, D.b true)).reverse
theorem keys_l (ls : List (List UInt8)) (hn : ls.length ≤ 1000) (hl : ∀ l ∈ ls, l.length ≤ 1000) (κ : List (D × D) → Option (List (D × D))) : ∀ (n i k : Nat) (acc : List (D × D)), ls.length - i ≤ n → n < k → i ≤ ls.length → acc.length ≤ i →
    Glex_keys.l58 k acc (ls.map toD) (ls.length : Int) (i : Int) κ = κ (((ls.drop i).map fun l => (toD l, D.b true)).reverse ++ acc) := by
  intro n
  induction n with
  | zero =>
    intro i k acc h1 h2 h3 h4
    obtain ⟨k, rfl⟩ : ∃ k', k = k' + 1 := ⟨k - 1, by omega⟩
    simp only [Glex_keys.l58]
    rw [decide_eq_false (show ¬ (i : Int) < (ls.length : Int) by omega), cond_false, List.drop_eq_nil_of_le (by omega)]
    rfl
  | succ n ih =>
    intro i k acc h1 h2 h3 h4
    obtain ⟨k, rfl⟩ : ∃ k', k = k' + 1 := ⟨k - 1, by omega⟩
    simp only [Glex_keys.l58]
    by_cases hi : i < ls.length
    · have hr := rd_map (fun l => ⟨l.toArray⟩) ls i hi
      have hsz : ls[i].length ≤ 1000 := hl _ (List.getElem_mem hi)
      rw [decide_eq_true (show (i : Int) < (ls.length : Int) by omega), cond_true, gd_pos (inB_pos ⟨by omega, by simp; omega⟩), toNat_nat, gd_pos (blt_pos (by simpa using hi)), hr]
      have h2' : ((D.s ⟨ls[i].toArray⟩).str).size ≤ maxS := by
        show (⟨ls[i].toArray⟩ : ByteArray).size ≤ maxS
        rw [toD_size]; unfold maxS; omega
      rw [gd_pos (by rw [decide_eq_true h2', blt_pos (show acc.length < lim by unfold lim; omega)]; rfl), w_succ _ (by omega), ih (i + 1) k _ (by omega) (by omega) (by omega) (by simp; omega)]
      rw [List.drop_eq_getElem_cons hi, List.map_cons, List.reverse_cons, List.append_assoc]
      rfl
    · rw [decide_eq_false (show ¬ (i : Int) < (ls.length : Int) by omega), cond_false, List.drop_eq_nil_of_le (by omega)]
      rfl
theorem keys_f : Glex_keys.f = some keyM := by
  unfold Glex_keys.f Glex_Keys.f
  rw [keys_fields]
  simp only [Option.bind_some]
  have := le_NN
  have h := keys_l keysU (by decide) (by decide) (fun y => some y) 43 0 NN [] (by decide) (by omega) (by omega) (by simp)
  rw [List.length_map]
  refine h.trans ?_
  simp [keyM]
theorem mget_keys (w : List UInt8) : ∀ (ls : List (List UInt8)), (mget K.str (toD w) (.b false) (ls.map fun l => (toD l, D.b true))).bool = ls.contains w
  | [] => rfl
  | l :: ls => by
    simp only [List.map_cons, mget, dEq, D.str, List.contains_cons]
    have e : ((⟨w.toArray⟩ : ByteArray).toList == (⟨l.toArray⟩ : ByteArray).toList) = (w == l) := by
      rw [toList_data, toList_data]
    rw [e]
    cases h : (w == l) with
    | true => rfl
    | false => simp only [cond_false, Bool.false_or]; exact mget_keys w ls
theorem key_f (w : List UInt8) : (mget K.str (toD w) (.b false) keyM).bool = keysU.contains w := by
  unfold keyM
  rw [← List.map_reverse, mget_keys]
  rw [Bool.eq_iff_iff, List.contains_iff_mem, List.contains_iff_mem, List.mem_reverse]
theorem name_f (s : ByteArray) (hs : s.size ≤ 40000) (p : Nat) (hp : p ≤ s.size) : TokOk s keyM p (Glex_scanner__name.f (s, (p : Int), keyM, ()))
    (if 24 < ((Lx s p).takeWhile wdU).length then .error 2 else .ok (⟨if keysU.contains ((Lx s p).takeWhile wdU) then 4 else 1, (Lx s p).takeWhile wdU, 0⟩, ((Lx s p).takeWhile wdU).length)) := by
  unfold Glex_scanner__name.f
  simp only
  rw [run36_f s hs keyM p hp, Option.bind_some]
  simp only
  have hl := takeWhile_le wdU (Lx s p)
  rw [Lx_len] at hl
  rw [toD_size, show (24 : Int) = ((24 : Nat) : Int) from rfl, dgt]
  by_cases h : 24 < ((Lx s p).takeWhile wdU).length
  · rw [if_pos h, decide_eq_true h, cond_true]
    exact ⟨by decide, _, _, rfl, rfl⟩
  · rw [if_neg h, decide_eq_false h, cond_false, gd_pos (decide_eq_true (by unfold maxS; omega)), key_f]
    cases keysU.contains ((Lx s p).takeWhile wdU) <;> rfl
/-! ### Characters -/
theorem char_tok (s : ByteArray) (hs : s.size ≤ 40000) (m : List (D × D)) (p : Nat) (hp : p < s.size) : TokOk s m p (Glex_scanner__character.f (s, (p : Int), m, ()))
    (match charL 39 (Lx s (p + 1)) with
      | none => .error 21
      | some (x, n) => match (Lx s (p + 1)).drop n with
        | [] => .error 21
        | q :: _ => if q.toNat = 39 then .ok (⟨2, [], x.toNat⟩, n + 2) else .error 21) := by
  unfold Glex_scanner__character.f
  simp only
  rw [w_succ _ (by omega)]
  rcases char_f s hs m (p + 1) (by omega) 39 with ⟨x, n, h1, h2⟩ | ⟨h1, p', h2, h3⟩
  · rw [h1]
    have h2 : Glex_scanner__char.f (s, ((p + 1 : Nat) : Int), m, ()) 39 = _ := h2
    rw [h2, Option.bind_some]
    simp only [Bool.not_true, Bool.false_or]
    rw [List.drop_drop]
    have hn := char_len h1
    rw [Lx_len] at hn
    by_cases hlt : p + 1 + n < s.size
    · obtain ⟨c, hc, hb⟩ := Lx_cons hlt
      have hc' : List.drop (p + 1 + n) s.data.toList = c :: Lx s (p + 1 + n + 1) := hc
      rw [hc', decide_eq_false (show ¬ ((p + 1 + n : Nat) : Int) ≥ (s.size : Int) by omega), gd_pos (by rw [inB_pos ⟨by omega, by omega⟩]; rfl), toNat_nat, hb]
      simp only [Bool.false_or]
      rw [bne, show (39 : Int) = ((39 : Nat) : Int) from rfl, beqI]
      by_cases hq : c.toNat = 39
      · rw [if_pos hq, show (c.toNat == 39) = true by rw [hq]; rfl]
        simp only [Bool.not_true, cond_false]
        rw [w64 (x.toNat : Int) (by have := x.toNat_lt; omega), w_succ _ (by omega)]
        rw [show p + 1 + n + 1 = p + (n + 2) by omega]
        rfl
      · rw [if_neg hq, show (c.toNat == 39) = false by rw [beq_eq_false_iff_ne]; exact hq]
        exact ⟨by decide, _, _, rfl, rfl⟩
    · have hc' : List.drop (p + 1 + n) s.data.toList = [] := Lx_nil (by omega)
      rw [hc', decide_eq_true (show ((p + 1 + n : Nat) : Int) ≥ (s.size : Int) by omega)]
      exact ⟨by decide, _, _, rfl, rfl⟩
  · rw [h1]
    have h3 : Glex_scanner__char.f (s, ((p + 1 : Nat) : Int), m, ()) 39 = _ := h3
    rw [h3]
    exact ⟨by decide, _, _, rfl, rfl⟩
/-! ### Strings -/
theorem text_eq (c : UInt8) (r : List UInt8) : textL (c :: r) = if c.toNat = 34 then some ([], 1) else match charL 34 (c :: r) with
    | none => none
    | some (x, n) => match textL ((c :: r).drop n) with | some (xs, j) => some (x :: xs, j + n) | none => none := by
  conv => lhs; unfold textL
  by_cases h1 : c.toNat = 34
  · rw [if_pos h1, if_pos h1]
  · rw [if_neg h1, if_neg h1]
    unfold charL
    simp only
    by_cases h2 : c.toNat < 32 ∨ 126 < c.toNat
    · rw [if_pos h2, if_pos (show c.toNat < 32 ∨ 126 < c.toNat ∨ c.toNat = 34 by omega)]
    · rw [if_neg h2, if_neg (show ¬ (c.toNat < 32 ∨ 126 < c.toNat ∨ c.toNat = 34) by omega)]
      by_cases h3 : c.toNat = 42
      · rw [if_pos h3, if_pos h3]
        cases r with
        | nil => rfl
        | cons e r' =>
          simp only
          cases he : escU e with
          | none => simp
          | some x =>
            simp only [Option.map_some, List.drop_succ_cons, List.drop_zero]
            all_goals (cases textL r' <;> rfl)
      · rw [if_neg h3, if_neg h3]
        simp only [List.drop_succ_cons, List.drop_zero]
        all_goals (cases textL r <;> rfl)
abbrev bD (l : List UInt8) : List D := l.map fun b => D.i (b.toNat : Int)
theorem text_l (s : ByteArray) (hs : s.size ≤ 40000) (m : List (D × D)) (v2 v4 : D) (κ : (Sc × D × D × List D) → Option (D × Int × Sc)) : ∀ (n q k : Nat) (acc : List UInt8), s.size - q ≤ n → n < k → q ≤ s.size → acc.length ≤ q →
    (∀ xs j, textL (Lx s q) = some (xs, j) → Glex_scanner__text.l124 k (s, (q : Int), m, ()) v2 v4 (bD acc) κ = κ ((s, ((q + j - 1 : Nat) : Int), m, ()), v2, v4, bD (acc ++ xs))) ∧
    (textL (Lx s q) = none → ∃ p' : Int, Glex_scanner__text.l124 k (s, (q : Int), m, ()) v2 v4 (bD acc) κ = some (v4, 21, (s, p', m, ()))) := by
  intro n
  induction n with
  | zero =>
    intro q k acc h1 h2 h3 h4
    obtain ⟨k, rfl⟩ : ∃ k', k = k' + 1 := ⟨k - 1, by omega⟩
    rw [Lx_nil (by omega)]
    refine ⟨fun xs j h => by simp [textL] at h, fun _ => ?_⟩
    simp only [Glex_scanner__text.l124]
    rw [decide_eq_true (show (q : Int) ≥ (s.size : Int) by omega)]
    rcases char_f s hs m q h3 34 with ⟨x, n, h1, _⟩ | ⟨_, p', _, h6⟩
    · rw [Lx_nil (by omega)] at h1; simp [charL] at h1
    · have h6 : Glex_scanner__char.f (s, (q : Int), m, ()) 34 = _ := h6
      rw [h6]
      exact ⟨_, rfl⟩
  | succ n ih =>
    intro q k acc h1 h2 h3 h4
    obtain ⟨k, rfl⟩ : ∃ k', k = k' + 1 := ⟨k - 1, by omega⟩
    by_cases hq : q < s.size
    · obtain ⟨c, hc, hb⟩ := Lx_cons hq
      rw [hc, text_eq]
      simp only [Glex_scanner__text.l124]
      rw [decide_eq_false (show ¬ (q : Int) ≥ (s.size : Int) by omega), gd_pos (by rw [inB_pos ⟨by omega, by omega⟩]; rfl), toNat_nat, hb, bne, show ((c.toNat : Int) == 34) = (c.toNat == 34) from beqI c.toNat 34]
      by_cases h34 : c.toNat = 34
      · rw [if_pos h34, show (c.toNat == 34) = true by rw [h34]; rfl]
        refine ⟨fun xs j h => ?_, fun h => by cases h⟩
        obtain ⟨rfl, rfl⟩ := Prod.mk.inj (Option.some.inj h)
        simp
      · rw [if_neg h34, show (c.toNat == 34) = false by rw [beq_eq_false_iff_ne]; exact h34]
        simp only [Bool.not_false, Bool.or_true, cond_true]
        rcases char_f s hs m q h3 34 with ⟨x, n', e1, e2⟩ | ⟨e1, p', _, e2⟩
        · have e2 : Glex_scanner__char.f (s, (q : Int), m, ()) 34 = _ := e2
          have hn := char_len e1
          rw [Lx_len] at hn
          rw [hc] at e1
          rw [e1, e2, Option.bind_some]
          simp only [Bool.not_true, cond_false]
          have hdr : List.drop n' (c :: Lx s (q + 1)) = Lx s (q + n') := by rw [← hc, List.drop_drop]
          have hacc : bD acc ++ [D.i (x.toNat : Int)] = bD (acc ++ [x]) := by simp [bD]
          rw [gd_pos (lim_pos (by simp [bD]; omega)), hacc, hdr]
          obtain ⟨i1, i2⟩ := ih (q + n') k (acc ++ [x]) (by omega) (by omega) (by omega) (by simp; omega)
          cases ht : textL (Lx s (q + n')) with
          | none =>
            refine ⟨fun xs j h => by simp at h, fun _ => i2 ht⟩
          | some z =>
            obtain ⟨xs, j⟩ := z
            refine ⟨fun ys j' h => ?_, fun h => by simp at h⟩
            have h : some (x :: xs, j + n') = some (ys, j') := h
            obtain ⟨rfl, rfl⟩ := Prod.mk.inj (Option.some.inj h)
            rw [i1 xs j ht]
            have := text_len _ _ (Nat.le_refl _) _ _ ht
            rw [show q + n' + j - 1 = q + (j + n') - 1 by omega, List.append_assoc]
            rfl
        · have e2 : Glex_scanner__char.f (s, (q : Int), m, ()) 34 = _ := e2
          rw [hc] at e1
          rw [e1, e2]
          exact ⟨fun xs j h => by simp at h, fun _ => ⟨_, rfl⟩⟩
    · rw [Lx_nil (by omega)]
      refine ⟨fun xs j h => by simp [textL] at h, fun _ => ?_⟩
      simp only [Glex_scanner__text.l124]
      rw [decide_eq_true (show (q : Int) ≥ (s.size : Int) by omega)]
      rcases char_f s hs m q h3 34 with ⟨x, n, h1, _⟩ | ⟨_, p', _, h6⟩
      · rw [Lx_nil (by omega)] at h1; simp [charL] at h1
      · have h6 : Glex_scanner__char.f (s, (q : Int), m, ()) 34 = _ := h6
        rw [h6]
        exact ⟨_, rfl⟩
theorem bstr_bD (l : List UInt8) : bstr (bD l) = ⟨l.toArray⟩ := by
  unfold bstr bD
  congr 2
  rw [List.map_map]
  have : ((fun d : D => UInt8.ofNat d.int.toNat) ∘ fun b : UInt8 => D.i (b.toNat : Int)) = id := by
    funext b
    show UInt8.ofNat ((b.toNat : Int)).toNat = b
    rw [toNat_nat]; exact UInt8.ofNat_toNat
  rw [this, List.map_id]
theorem text_tok (s : ByteArray) (hs : s.size ≤ 40000) (m : List (D × D)) (p : Nat) (hp : p < s.size) : TokOk s m p (Glex_scanner__text.f (s, (p : Int), m, ()))
    (match textL (Lx s (p + 1)) with
      | none => .error 21
      | some (xs, n) => if 100 < xs.length then .error 2 else .ok (⟨3, xs, 0⟩, n + 1)) := by
  unfold Glex_scanner__text.f
  simp only
  rw [w_succ _ (by omega)]
  have hN := le_NN
  obtain ⟨i1, i2⟩ := text_l s hs m (.r [.i 0, .s ByteArray.empty, .i 0, .i 0]) (.r [.i 3, .s ByteArray.empty, .i 0, .i (p : Int)]) (fun y2 => bif decide ((y2.2.2.2.length : Int) > 100) then some (y2.2.2.1, 2, (y2.1.1, (IntKind.i64.wrap (y2.1.2.1 + 1)), y2.1.2.2.1, ())) else some (.r [.i ((y2.2.2.1.cell 0).int), .s (bstr y2.2.2.2), .i ((y2.2.2.1.cell 2).int), .i ((y2.2.2.1.cell 3).int)], 0, (y2.1.1, (IntKind.i64.wrap (y2.1.2.1 + 1)), y2.1.2.2.1, ()))) s.size (p + 1) NN [] (by omega) (by omega) (by omega) (by simp)
  cases ht : textL (Lx s (p + 1)) with
  | none =>
    obtain ⟨p', h⟩ := i2 ht
    exact ⟨by decide, _, _, h, rfl⟩
  | some z =>
    obtain ⟨xs, j⟩ := z
    have h := i1 xs j ht
    have hj := text_len _ _ (Nat.le_refl _) _ _ ht
    rw [Lx_len] at hj
    have h' : Glex_scanner__text.l124 NN (s, ((p + 1 : Nat) : Int), m, ()) (.r [.i 0, .s ByteArray.empty, .i 0, .i 0]) (.r [.i 3, .s ByteArray.empty, .i 0, .i (p : Int)]) [] _ = _ := h
    rw [h']
    show TokOk s m p (bif decide (((bD xs).length : Int) > 100) then some (D.r [.i 3, .s ByteArray.empty, .i 0, .i (p : Int)], 2, (s, IntKind.i64.wrap (((p + 1 + j - 1 : Nat) : Int) + 1), m, ())) else some (D.r [.i 3, .s (bstr (bD xs)), .i 0, .i (p : Int)], 0, (s, IntKind.i64.wrap (((p + 1 + j - 1 : Nat) : Int) + 1), m, ()))) _
    rw [show (bD xs).length = xs.length by simp [bD], show (100 : Int) = ((100 : Nat) : Int) from rfl, dgt, bstr_bD, w_succ _ (by omega)]
    dsimp only
    by_cases hl : 100 < xs.length
    · rw [if_pos hl, decide_eq_true hl]
      exact ⟨by decide, _, _, rfl, rfl⟩
    · rw [if_neg hl, decide_eq_false hl]
      rw [show p + 1 + j - 1 + 1 = p + (j + 1) by omega]
      rfl
/-! ### Signs -/
theorem sign_l (s : ByteArray) (hs : s.size ≤ 40000) (m : List (D × D)) (p : Nat) (hp : p ≤ s.size) (v2 : D) (ls : List (List UInt8)) (hn : ls.length ≤ 1000) (κ : (Sc × D × D) → Option (D × Int × Sc)) : ∀ (n i k : Nat) (b : List UInt8), ls.length - i ≤ n → n < k → i ≤ ls.length →
    Glex_scanner__sign.l58 k (s, (p : Int), m, ()) v2 (tkD ⟨5, b, 0⟩ p) (ls.map toD) (ls.length : Int) (i : Int) κ = κ ((s, (p : Int), m, ()), v2, tkD ⟨5, (ls.drop i).foldl (fun b g => if b.length < g.length ∧ g.isPrefixOf (Lx s p) = true then g else b) b, 0⟩ p) := by
  intro n
  induction n with
  | zero =>
    intro i k b h1 h2 h3
    obtain ⟨k, rfl⟩ : ∃ k', k = k' + 1 := ⟨k - 1, by omega⟩
    simp only [Glex_scanner__sign.l58]
    rw [decide_eq_false (show ¬ (i : Int) < (ls.length : Int) by omega), cond_false, List.drop_eq_nil_of_le (by omega)]
    rfl
  | succ n ih =>
    intro i k b h1 h2 h3
    obtain ⟨k, rfl⟩ : ∃ k', k = k' + 1 := ⟨k - 1, by omega⟩
    simp only [Glex_scanner__sign.l58]
    by_cases hi : i < ls.length
    · have hr := rd_map (fun l => ⟨l.toArray⟩) ls i hi
      rw [decide_eq_true (show (i : Int) < (ls.length : Int) by omega), cond_true, gd_pos (inB_pos ⟨by omega, by simp; omega⟩), toNat_nat, gd_pos (blt_pos (by simpa using hi)), hr]
      have hd : decide ((((D.s ⟨ls[i].toArray⟩).str).size : Int) > ((((tkD ⟨5, b, 0⟩ p).cell 1).str).size : Int)) = decide (b.length < ls[i].length) := decide_eq_decide.2 (by
        show ((⟨ls[i].toArray⟩ : ByteArray).size : Int) > ((⟨b.toArray⟩ : ByteArray).size : Int) ↔ _
        rw [toD_size, toD_size]; omega)
      rw [hd]
      have hg : (decide ((0 : Int) ≤ (p : Int)) && decide ((p : Int) ≤ (s.size : Int))) = true := by
        rw [decide_eq_true (show (0 : Int) ≤ (p : Int) by omega), decide_eq_true (show (p : Int) ≤ (s.size : Int) by omega)]; rfl
      rw [hg, Bool.or_true, gd_pos rfl, toNat_nat, hasPrefix_f]
      simp only [D.str]
      have hex : (s.extract p s.size).data.toList = Lx s p := by
        rw [ext_data, List.take_of_length_le (by rw [Lx_len]; omega)]
      rw [hex, List.drop_eq_getElem_cons hi, List.foldl_cons]
      rw [w_succ _ (by omega)]
      by_cases hlt : b.length < ls[i].length
      · rw [decide_eq_true hlt, cond_true, Option.bind_some]
        cases hpre : ls[i].isPrefixOf (Lx s p) with
        | true =>
          rw [if_pos ⟨hlt, rfl⟩]
          exact ih (i + 1) k ls[i] (by omega) (by omega) (by omega)
        | false =>
          rw [if_neg (fun h => by cases h.2)]
          exact ih (i + 1) k b (by omega) (by omega) (by omega)
      · rw [decide_eq_false hlt, if_neg (fun h => hlt h.1)]
        exact ih (i + 1) k b (by omega) (by omega) (by omega)
    · rw [decide_eq_false (show ¬ (i : Int) < (ls.length : Int) by omega), cond_false, List.drop_eq_nil_of_le (by omega)]
      rfl
theorem sign_tok (s : ByteArray) (hs : s.size ≤ 40000) (m : List (D × D)) (p : Nat) (hp : p ≤ s.size) (g : List UInt8) (hg : signL (Lx s p) = g) : TokOk s m p (Glex_scanner__sign.f (s, (p : Int), m, ()))
    (if g = [] then .error 20 else .ok (⟨5, g, 0⟩, g.length)) := by
  unfold Glex_scanner__sign.f Glex_Signs.f
  rw [signs_fields]
  simp only [Option.bind_some]
  have hN := le_NN
  have h := sign_l s hs m p hp (.r [.i 0, .s ByteArray.empty, .i 0, .i 0]) signsU (by decide) (fun y3 => bif (((y3.2.2.cell 1).str).toList == strNil.toList) then some (y3.2.2, 20, (y3.1.1, y3.1.2.1, y3.1.2.2.1, ())) else some (y3.2.2, 0, (y3.1.1, (IntKind.i64.wrap (y3.1.2.1 + (((y3.2.2.cell 1).str).size : Int))), y3.1.2.2.1, ()))) 28 0 NN [] (by decide) (by omega) (by omega)
  have h' : Glex_scanner__sign.l58 NN (s, (p : Int), m, ()) (.r [.i 0, .s ByteArray.empty, .i 0, .i 0]) (.r [.i 5, .s ByteArray.empty, .i 0, .i (p : Int)]) (signsU.map toD) ((signsU.map toD).length : Int) 0 _ = _ := h
  rw [h']
  have hf : (signsU.drop 0).foldl (fun b g => if b.length < g.length ∧ g.isPrefixOf (Lx s p) = true then g else b) [] = signL (Lx s p) := rfl
  rw [hf, hg]
  have hcell : ((tkD ⟨5, g, 0⟩ p).cell 1).str = ⟨g.toArray⟩ := rfl
  simp only [hcell]
  rw [toList_data, toList_data]
  have hda : (⟨g.toArray⟩ : ByteArray).data.toList = g := by
    show g.toArray.toList = _
    simp
  rw [hda, toD_size]
  have hgl : g.length ≤ 2 := by
    rcases sign_ok (Lx s p) with h0 | ⟨h1, _⟩
    · rw [← hg, h0]; simp
    · rw [← hg]; exact (signs_len _ h1).2
  by_cases h0 : g = []
  · rw [if_pos h0, h0]
    exact ⟨by decide, _, _, rfl, rfl⟩
  · rw [if_neg h0, show (g == strNil.data.toList) = false by rw [beq_eq_false_iff_ne]; exact h0, cond_false, w_add _ _ (by omega)]
    rfl
end Go.Pv

namespace Go.Pv
open Go.Lx
set_option maxRecDepth 20000
theorem wu64 (n : Int) (h : 0 ≤ n ∧ n < 18446744073709551616) : IntKind.u64.wrap n = n := by
  simp only [IntKind.wrap, IntKind.signed, IntKind.bits]
  simp
  omega
theorem wu64_over (n : Int) (h : 18446744073709551616 ≤ n ∧ n < 2 * 18446744073709551616) : IntKind.u64.wrap n = n - 18446744073709551616 := by
  simp only [IntKind.wrap, IntKind.signed, IntKind.bits]
  simp
  omega
theorem wu8 (n : Int) (h : 0 ≤ n ∧ n < 256) : IntKind.u8.wrap n = n := by
  simp only [IntKind.wrap, IntKind.signed, IntKind.bits]
  simp
  omega
theorem dv_digit (c : UInt8) (h : dgU c = true) : dvU c < 10 ∧ (dvU c : Int) = (c.toNat : Int) - 48 ∧ 48 ≤ c.toNat ∧ c.toNat ≤ 57 := by
  unfold dgU at h
  simp only [Bool.and_eq_true, decide_eq_true_eq] at h
  unfold dvU
  rw [if_pos h.2]
  omega
theorem dv_letter (c : UInt8) (h : hxU c = true) (hd : dgU c = false) : dvU c < 16 ∧ 10 ≤ dvU c ∧ 57 < c.toNat ∧ Ginternal_strconv_lower.f (c.toNat : Int) = some ((dvU c : Int) + 87) := by
  have key : ∀ c : Fin 256, hxU (UInt8.ofNat c.val) = true → dgU (UInt8.ofNat c.val) = false → dvU (UInt8.ofNat c.val) < 16 ∧ 10 ≤ dvU (UInt8.ofNat c.val) ∧ 57 < (UInt8.ofNat c.val).toNat ∧ Ginternal_strconv_lower.f ((UInt8.ofNat c.val).toNat : Int) = some ((dvU (UInt8.ofNat c.val) : Int) + 87) := by decide
  have hc := key ⟨c.toNat, c.toNat_lt⟩
  simp only [UInt8.ofNat_toNat] at hc
  exact hc h hd
/-- A base, and from which number on one more digit is too much. -/
def Base (b K : Nat) : Prop := (b = 10 ∧ K = 1844674407370955162) ∨ (b = 16 ∧ K = 1152921504606846976)
theorem digit_p (b K n d : Nat) (hB : Base b K) (hn : n < 18446744073709551616) (hd : d < b) (v8 : Bool) (v9 : ByteArray) (v12 : Bool) (v99 : List D) (v100 v101 : Int) (κ : (Int × Bool × ByteArray × Int × Int × Bool × Int × List D × Int × Int) → Option (Int × Nat)) :
    Ginternal_strconv_ParseUint.p8387175 (b : Int) v8 v9 (K : Int) 18446744073709551615 v12 (n : Int) (d : Int) v99 v100 v101 κ = if n * b + d < 18446744073709551616 then κ ((b : Int), v8, v9, (K : Int), 18446744073709551615, v12, ((n * b + d : Nat) : Int), v99, v100, v101) else some (18446744073709551615, 1011) := by
  unfold Ginternal_strconv_ParseUint.p8387175
  have hb : b ≤ 16 := by rcases hB with ⟨rfl, _⟩ | ⟨rfl, _⟩ <;> omega
  rw [wu8 (b : Int) (by omega), decide_eq_false (show ¬ (d : Int) ≥ (b : Int) by omega), cond_false, wu64 (b : Int) (by omega), wu64 (d : Int) (by omega)]
  by_cases hK : K ≤ n
  · rw [decide_eq_true (show (n : Int) ≥ (K : Int) by omega), cond_true, if_neg (by rcases hB with ⟨rfl, rfl⟩ | ⟨rfl, rfl⟩ <;> omega)]
  · have hnb : n * b < 18446744073709551616 := by rcases hB with ⟨rfl, rfl⟩ | ⟨rfl, rfl⟩ <;> omega
    have e : (n : Int) * (b : Int) = ((n * b : Nat) : Int) := by simp
    rw [decide_eq_false (show ¬ (n : Int) ≥ (K : Int) by omega), cond_false, e, wu64 ((n * b : Nat) : Int) (by omega)]
    generalize n * b = q at hnb
    by_cases hs : q + d < 18446744073709551616
    · rw [if_pos hs, wu64 ((q : Int) + (d : Int)) (by omega), decide_eq_false (show ¬ ((q : Int) + (d : Int)) < (q : Int) by omega), decide_eq_false (show ¬ ((q : Int) + (d : Int)) > 18446744073709551615 by omega)]
      rfl
    · rw [if_neg hs, wu64_over ((q : Int) + (d : Int)) (by omega), decide_eq_true (show ((q : Int) + (d : Int)) - 18446744073709551616 < (q : Int) by omega)]
      rfl
theorem fold_ge (b : Nat) (hb : 1 ≤ b) : ∀ (l : List UInt8) (n : Nat), n ≤ l.foldl (fun n c => n * b + dvU c) n
  | [], n => Nat.le_refl _
  | c :: r, n => by
    rw [List.foldl_cons]
    refine Nat.le_trans ?_ (fold_ge b hb r _)
    have : n * 1 ≤ n * b := Nat.mul_le_mul_left n hb
    omega
theorem rd_bD : ∀ (l : List UInt8) (i : Nat) (h : i < l.length), rd (bD l) i = .i (l[i].toNat : Int)
  | [], i, h => by simp at h
  | x :: r, 0, h => rfl
  | x :: r, i + 1, h => by simpa [rd, bD] using rd_bD r i (by simpa using h)
theorem parse_l (b K : Nat) (hB : Base b K) (l : List UInt8) (hl : l.length ≤ 40000) (hg : ∀ c ∈ l, hxU c = true ∧ dvU c < b) (v9 : ByteArray) (κ : (ByteArray × Bool × Int) → Option (Int × Nat)) : ∀ (j i k n : Nat), l.length - i ≤ j → j < k → i ≤ l.length → n < 18446744073709551616 →
    Ginternal_strconv_ParseUint.l32762 k (b : Int) false v9 (K : Int) 18446744073709551615 false (n : Int) (bD l) (l.length : Int) (i : Int) κ =
      if (l.drop i).foldl (fun n c => n * b + dvU c) n < 18446744073709551616 then κ (v9, false, (((l.drop i).foldl (fun n c => n * b + dvU c) n : Nat) : Int)) else some (18446744073709551615, 1011) := by
  have hb1 : 1 ≤ b := by rcases hB with ⟨rfl, _⟩ | ⟨rfl, _⟩ <;> omega
  intro j
  induction j with
  | zero =>
    intro i k n h1 h2 h3 hn
    obtain ⟨k, rfl⟩ : ∃ k', k = k' + 1 := ⟨k - 1, by omega⟩
    simp only [Ginternal_strconv_ParseUint.l32762]
    rw [decide_eq_false (show ¬ (i : Int) < (l.length : Int) by omega), cond_false, List.drop_eq_nil_of_le (by omega), List.foldl_nil, if_pos hn]
  | succ j ih =>
    intro i k n h1 h2 h3 hn
    obtain ⟨k, rfl⟩ : ∃ k', k = k' + 1 := ⟨k - 1, by omega⟩
    simp only [Ginternal_strconv_ParseUint.l32762]
    by_cases hi : i < l.length
    · have hr : (rd (bD l) i).int = (l[i].toNat : Int) := by rw [rd_bD l i hi]; rfl
      obtain ⟨hh, hdb⟩ := hg _ (List.getElem_mem hi)
      rw [decide_eq_true (show (i : Int) < (l.length : Int) by omega), cond_true, gd_pos (inB_pos ⟨by omega, by simp [bD]; omega⟩), toNat_nat, hr]
      simp only [Bool.and_false, cond_false]
      rw [List.drop_eq_getElem_cons hi, List.foldl_cons]
      generalize l[i] = c at hh hdb ⊢
      have step : ∀ κ', (∀ m : Nat, m < 18446744073709551616 → κ' ((b : Int), false, v9, (K : Int), 18446744073709551615, false, ((m : Nat) : Int), bD l, (l.length : Int), (i : Int)) = Ginternal_strconv_ParseUint.l32762 k (b : Int) false v9 (K : Int) 18446744073709551615 false (m : Int) (bD l) (l.length : Int) (IntKind.i64.wrap ((i : Int) + 1)) κ) →
          Ginternal_strconv_ParseUint.p8387175 (b : Int) false v9 (K : Int) 18446744073709551615 false (n : Int) (dvU c : Int) (bD l) (l.length : Int) (i : Int) κ' = if (l.drop (i + 1)).foldl (fun n c => n * b + dvU c) (n * b + dvU c) < 18446744073709551616 then κ (v9, false, (((l.drop (i + 1)).foldl (fun n c => n * b + dvU c) (n * b + dvU c) : Nat) : Int)) else some (18446744073709551615, 1011) := by
        intro κ' hκ
        rw [digit_p b K n (dvU c) hB hn hdb]
        by_cases hs : n * b + dvU c < 18446744073709551616
        · rw [if_pos hs, hκ _ hs, w_succ _ (by omega)]
          exact ih (i + 1) k _ (by omega) (by omega) (by omega) hs
        · have := fold_ge b hb1 (l.drop (i + 1)) (n * b + dvU c)
          rw [if_neg hs, if_neg (by omega)]
      cases hd : dgU c with
      | true =>
        obtain ⟨q1, q2, q3, q4⟩ := dv_digit c hd
        rw [decide_eq_true (show (48 : Int) ≤ (c.toNat : Int) by omega), decide_eq_true (show (c.toNat : Int) ≤ 57 by omega)]
        simp only [Bool.and_self, cond_true]
        rw [← q2, wu8 _ (by omega)]
        exact step _ fun m hm => rfl
      | false =>
        obtain ⟨q1, q2, q3, q4⟩ := dv_letter c hh hd
        rw [decide_eq_false (show ¬ (c.toNat : Int) ≤ 57 by omega)]
        simp only [Bool.and_false, cond_false]
        rw [q4]
        simp only [Option.bind_some]
        rw [decide_eq_true (show (97 : Int) ≤ (dvU c : Int) + 87 by omega)]
        simp only [cond_true, Option.bind_some]
        rw [decide_eq_true (show (dvU c : Int) + 87 ≤ 122 by omega)]
        simp only [Bool.and_self, cond_true]
        rw [wu8 ((dvU c : Int) + 87 - 97) (by omega), show (dvU c : Int) + 87 - 97 + 10 = (dvU c : Int) by omega, wu8 _ (by omega)]
        exact step _ fun m hm => rfl
    · rw [decide_eq_false (show ¬ (i : Int) < (l.length : Int) by omega), cond_false, List.drop_eq_nil_of_le (by omega), List.foldl_nil, if_pos hn]
theorem ubytes_bD (l : List UInt8) : ubytes ⟨l.toArray⟩ = bD l := by
  unfold ubytes bD
  simp
theorem parse_f (b K : Nat) (hB : Base b K) (l : List UInt8) (h0 : l ≠ []) (hl : l.length ≤ 40000) (hg : ∀ c ∈ l, hxU c = true ∧ dvU c < b) :
    Gstrconv_ParseUint.f ⟨l.toArray⟩ (b : Int) 64 = if numU b l < 18446744073709551616 then some ((numU b l : Int), 0) else some (18446744073709551615, 1) := by
  have hN := le_NN
  have e0 : ((⟨l.toArray⟩ : ByteArray).toList == strNil.toList) = false := by
    rw [toList_data, toList_data]
    rw [beq_eq_false_iff_ne]
    intro h
    have h : l = [] := by simpa [strNil] using h
    exact h0 h
  have hM : IntKind.u64.wrap ((IntKind.u64.wrap ((1 : Int) * 2 ^ (min ((IntKind.u64.wrap 64)).toNat (IntKind.u64).bits))) - 1) = 18446744073709551615 := by decide
  have hw : decide ((0 : Int) ≤ IntKind.u64.wrap 64) = true := by decide
  have inner : Ginternal_strconv_ParseUint.p511 ⟨l.toArray⟩ (b : Int) 64 false ⟨l.toArray⟩ (K : Int) = if numU b l < 18446744073709551616 then some ((numU b l : Int), 0) else some (18446744073709551615, 1011) := by
    unfold Ginternal_strconv_ParseUint.p511
    rw [gd_pos hw, hM, ubytes_bD]
    have := parse_l b K hB l hl hg ⟨l.toArray⟩ (fun y6 => (bif y6.2.1 then Ginternal_strconv_underscoreOK.f y6.1 else some false).bind fun r7 => bif (y6.2.1 && (!r7)) then some (0, 1012) else some (y6.2.2, 0)) l.length 0 NN 0 (by omega) (by omega) (by omega) (by omega)
    rw [show (bD l).length = l.length by simp [bD]]
    exact this
  have whole : Ginternal_strconv_ParseUint.f ⟨l.toArray⟩ (b : Int) 64 = if numU b l < 18446744073709551616 then some ((numU b l : Int), 0) else some (18446744073709551615, 1011) := by
    rw [← inner]
    unfold Ginternal_strconv_ParseUint.f
    rw [e0]
    rcases hB with ⟨rfl, rfl⟩ | ⟨rfl, rfl⟩ <;> rfl
  unfold Gstrconv_ParseUint.f
  rw [whole]
  by_cases hs : numU b l < 18446744073709551616
  · rw [if_pos hs, if_pos hs]; rfl
  · rw [if_neg hs, if_neg hs, Option.bind_some]
    have : Gstrconv_toError.f str506172736555696e74 ⟨l.toArray⟩ (b : Int) 64 1011 = some 1 := by
      unfold Gstrconv_toError.f
      rw [toD_size, Nat.ble_eq_true_of_le (show l.length ≤ 1000000000 by omega)]
      rfl
    show (bif (!(Nat.beq 1011 0)) then (Gstrconv_toError.f str506172736555696e74 ⟨l.toArray⟩ (b : Int) 64 1011).bind fun r2 => some ((18446744073709551615 : Int), r2) else _) = _
    rw [this]; rfl
theorem mem_tw {p : UInt8 → Bool} : ∀ {l : List UInt8} {c : UInt8}, c ∈ l.takeWhile p → p c = true
  | [], c, h => by simp at h
  | x :: r, c, h => by
    rw [List.takeWhile_cons] at h
    cases hx : p x with
    | false => rw [hx] at h; simp at h
    | true =>
      rw [hx] at h
      simp only [if_true] at h
      rcases List.mem_cons.1 h with rfl | h
      · exact hx
      · exact mem_tw h
theorem dg_hx (c : UInt8) (h : dgU c = true) : hxU c = true := by unfold hxU; rw [h]; rfl
theorem dv_lt (c : UInt8) (h : hxU c = true) : dvU c < 16 := by
  cases hd : dgU c with
  | true => have := dv_digit c hd; omega
  | false => exact (dv_letter c h hd).1
theorem num_tok (s : ByteArray) (hs : s.size ≤ 40000) (m : List (D × D)) (p : Nat) (hp : p < s.size) (c : UInt8) (hc : Lx s p = c :: Lx s (p + 1)) (hb : bt s p = (c.toNat : Int)) (hd : dgU c = true ∨ c.toNat = 35) : TokOk s m p (Glex_scanner__number.f (s, (p : Int), m, ()))
    (if dgU c then
      if 2147483647 < numU 10 ((Lx s p).takeWhile dgU) then .error 22 else .ok (⟨2, [], numU 10 ((Lx s p).takeWhile dgU)⟩, ((Lx s p).takeWhile dgU).length)
    else if (Lx s (p + 1)).takeWhile hxU = [] then .error 20
      else if 4294967295 < numU 16 ((Lx s (p + 1)).takeWhile hxU) then .error 22 else .ok (⟨2, [], wordU (numU 16 ((Lx s (p + 1)).takeWhile hxU))⟩, ((Lx s (p + 1)).takeWhile hxU).length + 1)) := by
  unfold Glex_scanner__number.f
  simp only
  rw [gd_pos (inB_pos ⟨by omega, by omega⟩), toNat_nat, hb, show ((c.toNat : Int) == 35) = (c.toNat == 35) from beqI c.toNat 35]
  have nilf : ∀ l : List UInt8, ((⟨l.toArray⟩ : ByteArray).toList == strNil.toList) = (l == []) := fun l => by
    rw [toList_data, toList_data]
    simp [strNil]
  cases hdg : dgU c with
  | true =>
    have hq := dv_digit c hdg
    rw [show (c.toNat == 35) = false by rw [beq_eq_false_iff_ne]; omega, cond_false, run58_f s hs m p (by omega), Option.bind_some]
    have hl := takeWhile_le dgU (Lx s p)
    rw [Lx_len] at hl
    have hne : (Lx s p).takeWhile dgU ≠ [] := by rw [hc, List.takeWhile_cons, hdg]; simp
    have hgood : ∀ c ∈ (Lx s p).takeWhile dgU, hxU c = true ∧ dvU c < 10 := fun c hc => ⟨dg_hx c (mem_tw hc), (dv_digit c (mem_tw hc)).1⟩
    generalize hL : (Lx s p).takeWhile dgU = L at hl hne hgood ⊢
    simp only
    rw [nilf, show (L == []) = false by rw [beq_eq_false_iff_ne]; exact hne, cond_false]
    have hP : Gstrconv_ParseUint.f ⟨L.toArray⟩ 10 64 = _ := parse_f 10 _ (.inl ⟨rfl, rfl⟩) L hne (by omega) hgood
    rw [hP, wu64 2147483647 (by omega)]
    simp only [if_true]
    by_cases hs : numU 10 L < 18446744073709551616
    · rw [if_pos hs, Option.bind_some]
      by_cases hbig : 2147483647 < numU 10 L
      · rw [if_pos hbig, decide_eq_true (show (numU 10 L : Int) > 2147483647 by omega)]
        exact ⟨by decide, _, _, rfl, rfl⟩
      · rw [if_neg hbig, decide_eq_false (show ¬ (numU 10 L : Int) > 2147483647 by omega)]
        simp only [Nat.beq_refl, Bool.not_true, Bool.or_self, cond_false]
        rw [w64 (numU 10 L : Int) (by omega), decide_eq_false (show ¬ (numU 10 L : Int) ≥ 2147483648 by omega)]
        rfl
    · rw [if_neg hs, if_pos (show 2147483647 < numU 10 L by omega)]
      exact ⟨by decide, _, _, rfl, rfl⟩
  | false =>
    have h35 : c.toNat = 35 := hd.resolve_left (fun h => by rw [hdg] at h; cases h)
    rw [h35, beq_self_eq_true, cond_true, w_succ _ (by omega), run85_f s hs m (p + 1) (by omega), Option.bind_some]
    have hl := takeWhile_le hxU (Lx s (p + 1))
    rw [Lx_len] at hl
    have hgood : ∀ c ∈ (Lx s (p + 1)).takeWhile hxU, hxU c = true ∧ dvU c < 16 := fun c hc => ⟨mem_tw hc, dv_lt c (mem_tw hc)⟩
    generalize hL : (Lx s (p + 1)).takeWhile hxU = L at hl hgood ⊢
    simp only [Bool.false_eq_true, if_false]
    rw [nilf]
    by_cases hne : L = []
    · rw [hne]
      exact ⟨by decide, _, _, rfl, rfl⟩
    · rw [if_neg hne, show (L == []) = false by rw [beq_eq_false_iff_ne]; exact hne, cond_false]
      have hP : Gstrconv_ParseUint.f ⟨L.toArray⟩ 16 64 = _ := parse_f 16 _ (.inr ⟨rfl, rfl⟩) L hne (by omega) hgood
      rw [hP, wu64 4294967295 (by omega)]
      by_cases hs : numU 16 L < 18446744073709551616
      · rw [if_pos hs, Option.bind_some]
        by_cases hbig : 4294967295 < numU 16 L
        · rw [if_pos hbig, decide_eq_true (show (numU 16 L : Int) > 4294967295 by omega)]
          exact ⟨by decide, _, _, rfl, rfl⟩
        · rw [if_neg hbig, decide_eq_false (show ¬ (numU 16 L : Int) > 4294967295 by omega)]
          simp only [Nat.beq_refl, Bool.not_true, Bool.or_self, cond_false]
          rw [w64 (numU 16 L : Int) (by omega)]
          unfold wordU
          by_cases hneg : 2147483648 ≤ numU 16 L
          · rw [if_pos hneg, decide_eq_true (show (numU 16 L : Int) ≥ 2147483648 by omega), cond_true, w64 _ (by omega), show p + 1 + L.length = p + (L.length + 1) by omega]
            rfl
          · rw [if_neg hneg, decide_eq_false (show ¬ (numU 16 L : Int) ≥ 2147483648 by omega), cond_false, show p + 1 + L.length = p + (L.length + 1) by omega]
            rfl
      · rw [if_neg hs, if_pos (show 4294967295 < numU 16 L by omega)]
        exact ⟨by decide, _, _, rfl, rfl⟩
/-- A method's answer, handed on. -/
theorem tokOk_bind {s : ByteArray} {m : List (D × D)} {p : Nat} {f : Option (D × Int × Sc)} {t : Except Int (Tk × Nat)} (h : TokOk s m p f t) : TokOk s m p (f.bind fun r => some (r.1, r.2.1, (r.2.2.1, r.2.2.2.1, r.2.2.2.2.1, ()))) t := by
  cases t with
  | ok z =>
    obtain ⟨t, n⟩ := z
    have h : f = _ := h
    rw [h]; rfl
  | error e =>
    obtain ⟨h0, d, p', h1, h2⟩ := h
    rw [h1]
    exact ⟨h0, d, p', rfl, h2⟩
theorem tokL_small {c : UInt8} {r : List UInt8} (h : smU c = true) : tokL (c :: r) = if 24 < ((c :: r).takeWhile wdU).length then .error 2
      else .ok (⟨if keysU.contains ((c :: r).takeWhile wdU) then 4 else 1, (c :: r).takeWhile wdU, 0⟩, ((c :: r).takeWhile wdU).length) := by
  unfold tokL
  exact if_pos h
theorem tokL_digit {c : UInt8} {r : List UInt8} (h : smU c = false) (h2 : dgU c = true) : tokL (c :: r) = if 2147483647 < numU 10 ((c :: r).takeWhile dgU) then .error 22 else .ok (⟨2, [], numU 10 ((c :: r).takeWhile dgU)⟩, ((c :: r).takeWhile dgU).length) := by
  unfold tokL
  exact (if_neg (by rw [h]; exact Bool.false_ne_true)).trans (if_pos h2)
theorem tokL_hex {c : UInt8} {r : List UInt8} (h : smU c = false) (h2 : dgU c = false) (h3 : c.toNat = 35) : tokL (c :: r) = if r.takeWhile hxU = [] then .error 20
      else if 4294967295 < numU 16 (r.takeWhile hxU) then .error 22 else .ok (⟨2, [], wordU (numU 16 (r.takeWhile hxU))⟩, (r.takeWhile hxU).length + 1) := by
  unfold tokL
  exact (if_neg (by rw [h]; exact Bool.false_ne_true)).trans ((if_neg (by rw [h2]; exact Bool.false_ne_true)).trans (if_pos h3))
theorem tokL_char {c : UInt8} {r : List UInt8} (h : smU c = false) (h2 : dgU c = false) (h3 : ¬ c.toNat = 35) (h4 : c.toNat = 39) : tokL (c :: r) = match charL 39 r with
      | none => .error 21
      | some (x, n) => match r.drop n with
        | [] => .error 21
        | q :: _ => if q.toNat = 39 then .ok (⟨2, [], x.toNat⟩, n + 2) else .error 21 := by
  unfold tokL
  exact (if_neg (by rw [h]; exact Bool.false_ne_true)).trans ((if_neg (by rw [h2]; exact Bool.false_ne_true)).trans ((if_neg h3).trans (if_pos h4)))
theorem tokL_text {c : UInt8} {r : List UInt8} (h : smU c = false) (h2 : dgU c = false) (h3 : ¬ c.toNat = 35) (h4 : ¬ c.toNat = 39) (h5 : c.toNat = 34) : tokL (c :: r) = match textL r with
      | none => .error 21
      | some (xs, n) => if 100 < xs.length then .error 2 else .ok (⟨3, xs, 0⟩, n + 1) := by
  unfold tokL
  exact (if_neg (by rw [h]; exact Bool.false_ne_true)).trans ((if_neg (by rw [h2]; exact Bool.false_ne_true)).trans ((if_neg h3).trans ((if_neg h4).trans (if_pos h5))))
theorem tokL_sign {c : UInt8} {r : List UInt8} (h : smU c = false) (h2 : dgU c = false) (h3 : ¬ c.toNat = 35) (h4 : ¬ c.toNat = 39) (h5 : ¬ c.toNat = 34) (g : List UInt8) (hg : signL (c :: r) = g) : tokL (c :: r) = if g = [] then .error 20 else .ok (⟨5, g, 0⟩, g.length) := by
  subst hg
  unfold tokL
  exact (if_neg (by rw [h]; exact Bool.false_ne_true)).trans ((if_neg (by rw [h2]; exact Bool.false_ne_true)).trans ((if_neg h3).trans ((if_neg h4).trans (if_neg h5))))
theorem token_f (s : ByteArray) (hs : s.size ≤ 40000) (p : Nat) (hp : p < s.size) : TokOk s keyM p (Glex_scanner__token.f (s, (p : Int), keyM, ())) (tokL (Lx s p)) := by
  obtain ⟨c, hc, hb⟩ := Lx_cons hp
  have hpl := Nat.le_of_lt hp
  unfold Glex_scanner__token.f
  simp only
  rw [gd_pos (inB_pos ⟨by omega, by omega⟩), toNat_nat, hb, small_f, Option.bind_some, digit_f, Option.bind_some]
  rw [show ((c.toNat : Int) == 35) = (c.toNat == 35) from beqI c.toNat 35, show ((c.toNat : Int) == 39) = (c.toNat == 39) from beqI c.toNat 39, show ((c.toNat : Int) == 34) = (c.toNat == 34) from beqI c.toNat 34]
  cases h1 : smU c with
  | true =>
    have := name_f s hs p hpl
    rw [hc] at this ⊢
    rw [tokL_small h1]
    exact tokOk_bind this
  | false =>
    rw [cond_false]
    cases h2 : dgU c with
    | true =>
      have := num_tok s hs keyM p hp c hc hb (.inl h2)
      rw [if_pos h2] at this
      rw [hc] at this ⊢
      rw [tokL_digit h1 h2]
      exact tokOk_bind this
    | false =>
      rw [Bool.false_or]
      by_cases h3 : c.toNat = 35
      · have := num_tok s hs keyM p hp c hc hb (.inr h3)
        rw [if_neg (by rw [h2]; exact Bool.false_ne_true)] at this
        rw [hc, tokL_hex h1 h2 h3, show (c.toNat == 35) = true by rw [h3]; rfl, cond_true]
        exact tokOk_bind this
      · rw [show (c.toNat == 35) = false by rw [beq_eq_false_iff_ne]; exact h3, cond_false]
        by_cases h4 : c.toNat = 39
        · rw [hc, tokL_char h1 h2 h3 h4, show (c.toNat == 39) = true by rw [h4]; rfl, cond_true]
          exact tokOk_bind (char_tok s hs keyM p hp)
        · rw [show (c.toNat == 39) = false by rw [beq_eq_false_iff_ne]; exact h4, cond_false]
          by_cases h5 : c.toNat = 34
          · rw [hc, tokL_text h1 h2 h3 h4 h5, show (c.toNat == 34) = true by rw [h5]; rfl, cond_true]
            exact tokOk_bind (text_tok s hs keyM p hp)
          · rw [show (c.toNat == 34) = false by rw [beq_eq_false_iff_ne]; exact h5, cond_false]
            generalize hg : signL (Lx s p) = g
            have := sign_tok s hs keyM p hpl g hg
            rw [hc] at hg ⊢
            rw [tokL_sign h1 h2 h3 h4 h5 g hg]
            exact tokOk_bind this
theorem tok_kind {l : List UInt8} {t : Tk} {n : Nat} (h : tokL l = .ok (t, n)) : 1 ≤ t.kind ∧ t.kind ≤ 5 := by
  unfold tokL at h
  split at h
  · cases h
  · rename_i c r
    split at h
    · split at h
      · cases h
      · obtain ⟨rfl, -⟩ := Prod.mk.inj (Except.ok.inj h)
        simp only; split <;> omega
    · split at h
      · split at h
        · cases h
        · obtain ⟨rfl, -⟩ := Prod.mk.inj (Except.ok.inj h)
          simp only; omega
      · split at h
        · split at h
          · cases h
          · split at h
            · cases h
            · obtain ⟨rfl, -⟩ := Prod.mk.inj (Except.ok.inj h)
              simp only; omega
        · split at h
          · split at h
            · cases h
            · split at h
              · cases h
              · split at h
                · obtain ⟨rfl, -⟩ := Prod.mk.inj (Except.ok.inj h)
                  simp only; omega
                · cases h
          · split at h
            · split at h
              · cases h
              · split at h
                · cases h
                · obtain ⟨rfl, -⟩ := Prod.mk.inj (Except.ok.inj h)
                  simp only; omega
            · split at h
              · cases h
              · obtain ⟨rfl, -⟩ := Prod.mk.inj (Except.ok.inj h)
                simp only; omega
abbrev endD (p : Nat) : D := .r [.i 0, .s ByteArray.empty, .i 0, .i (p : Int)]
/-- What becomes of tokens that are there and of those that come. -/
def ansD (acc : List D) (q : Raw) : Option (List D × Int × Int) :=
  match q.toks.drop (20000 - acc.length) with
  | (_, p) :: _ => some ([], 2, (p : Int))
  | [] => match q.err with
    | some e => some ([], e, (q.p : Int))
    | none => if acc.length + q.toks.length = 20000 then some ([], 2, (q.p : Int)) else some (acc ++ q.toks.map (fun x => tkD x.1 x.2) ++ [endD q.p], 0, 0)
theorem scan_l (s : ByteArray) (hs : s.size ≤ 40000) : ∀ (n p k : Nat) (acc : List D), s.size - p ≤ n → n < k → p ≤ s.size → acc.length ≤ 20000 →
    Glex_Scan.l62 k s (s, (p : Int), keyM, ()) acc = ansD acc (rawF k (Lx s p) s.size) := by
  intro n
  induction n with
  | zero =>
    intro p k acc h1 h2 h3 h4
    obtain ⟨k, rfl⟩ : ∃ k', k = k' + 1 := ⟨k - 1, by omega⟩
    simp only [Glex_Scan.l62]
    rw [skip_f s hs keyM p h3, Option.bind_some, Lx_nil (by omega), raw_nil (by simp [skipA])]
    have hsk : skipA false [] = [] := by simp [skipA]
    simp only [hsk, List.length_nil, Nat.sub_zero]
    rw [decide_eq_false (show ¬ (s.size : Int) < (s.size : Int) by omega), cond_false]
    simp only [Glex_Scan.p3983, Glex_Scan.p7967]
    unfold ansD
    simp only [List.drop_nil, List.length_nil, Nat.add_zero, List.map_nil, List.append_nil]
    rw [show ((acc.length : Int) == 20000) = (acc.length == 20000) from beqI acc.length 20000]
    by_cases hl : acc.length = 20000
    · rw [if_pos hl, hl]; rfl
    · rw [if_neg hl, show (acc.length == 20000) = false by rw [beq_eq_false_iff_ne]; exact hl]
      show gd (Nat.ble (acc.length + 1) lim) _ = _
      rw [gd_pos (lim_pos (by omega))]; rfl
  | succ n ih =>
    intro p k acc h1 h2 h3 h4
    obtain ⟨k, rfl⟩ : ∃ k', k = k' + 1 := ⟨k - 1, by omega⟩
    simp only [Glex_Scan.l62]
    rw [skip_f s hs keyM p h3, Option.bind_some]
    have hsl := skip_len (Lx s p) false
    have hdr := skip_drop (Lx s p) false
    rw [Lx_len] at hsl hdr
    rw [List.drop_drop] at hdr
    cases hsk : skipA false (Lx s p) with
    | nil =>
      rw [raw_nil hsk]
      simp only [List.length_nil, Nat.sub_zero]
      rw [decide_eq_false (show ¬ (s.size : Int) < (s.size : Int) by omega), cond_false]
      simp only [Glex_Scan.p3983, Glex_Scan.p7967]
      unfold ansD
      simp only [List.drop_nil, List.length_nil, Nat.add_zero, List.map_nil, List.append_nil]
      rw [show ((acc.length : Int) == 20000) = (acc.length == 20000) from beqI acc.length 20000]
      by_cases hl : acc.length = 20000
      · rw [if_pos hl, hl]; rfl
      · rw [if_neg hl, show (acc.length == 20000) = false by rw [beq_eq_false_iff_ne]; exact hl]
        show gd (Nat.ble (acc.length + 1) lim) _ = _
        rw [gd_pos (lim_pos (by omega))]; rfl
    | cons c r =>
      rw [hsk] at hsl hdr
      rw [List.length_cons] at hsl hdr
      have hp1 : p + (s.size - p - (r.length + 1)) = s.size - (r.length + 1) := by omega
      rw [hp1] at hdr
      simp only [List.length_cons]
      rw [decide_eq_true (show ((s.size - (r.length + 1) : Nat) : Int) < (s.size : Int) by omega), cond_true]
      have htok := token_f s hs (s.size - (r.length + 1)) (by omega)
      have hLx : Lx s (s.size - (r.length + 1)) = c :: r := hdr.symm
      rw [hLx] at htok
      generalize hq : s.size - (r.length + 1) = q at htok hLx
      cases ht : tokL (c :: r) with
      | error e =>
        rw [ht] at htok
        obtain ⟨h0, d, p', e1, e2⟩ := htok
        rw [e1, Option.bind_some, raw_err hsk ht, hq]
        simp only [Glex_Scan.p3983, Glex_Scan.p7967]
        unfold ansD
        simp only [List.drop_nil]
        rw [show (e == 0) = false by rw [beq_eq_false_iff_ne]; exact h0, Bool.false_and, cond_false, show (e != 0) = true by rw [bne_iff_ne]; exact h0, cond_true, e2]
      | ok z =>
        obtain ⟨t, j⟩ := z
        rw [ht] at htok
        have htok : Glex_scanner__token.f (s, (q : Int), keyM, ()) = some (tkD t q, 0, (s, ((q + j : Nat) : Int), keyM, ())) := htok
        rw [htok, Option.bind_some, raw_ok hsk ht, hq]
        simp only [Glex_Scan.p3983, Glex_Scan.p7967]
        rw [show ((acc.length : Int) == 20000) = (acc.length == 20000) from beqI acc.length 20000]
        have hj := tok_len ht
        rw [List.length_cons] at hj
        have hk := tok_kind ht
        by_cases hl : acc.length = 20000
        · unfold ansD
          rw [hl]
          rfl
        · rw [show (acc.length == 20000) = false by rw [beq_eq_false_iff_ne]; exact hl]
          simp only [beq_self_eq_true, Bool.and_false, cond_false]
          have hkk : (((tkD t q).cell 0).int == 0) = false := by
            show (t.kind == 0) = false
            rw [beq_eq_false_iff_ne]; omega
          show (bif (0 : Int) != 0 then _ else gd (Nat.ble (acc.length + 1) lim) (bif ((tkD t q).cell 0).int == 0 then _ else Glex_Scan.l62 k s (s, ((q + j : Nat) : Int), keyM, ()) (acc ++ [tkD t q]))) = _
          rw [gd_pos (lim_pos (by omega)), hkk]
          show Glex_Scan.l62 k s (s, ((q + j : Nat) : Int), keyM, ()) (acc ++ [tkD t q]) = _
          rw [ih (q + j) k (acc ++ [tkD t q]) (by omega) (by omega) (by omega) (by simp; omega)]
          have hd2 : List.drop j (c :: r) = Lx s (q + j) := by rw [← hLx, List.drop_drop]
          rw [hd2]
          unfold ansD
          simp only [List.length_append, List.length_cons, List.length_nil, List.map_cons, List.append_assoc, List.cons_append, List.nil_append]
          rw [show 20000 - acc.length = (20000 - (acc.length + 1)) + 1 by omega, List.drop_succ_cons, show acc.length + 1 + (rawF k (Lx s (q + j)) s.size).toks.length = acc.length + ((rawF k (Lx s (q + j)) s.size).toks.length + 1) by omega]
/-- What lex.Scan answers, as data. -/
def scanD (l : List UInt8) : List D × Int × Int := match scanL l with
  | .ok t => (t.map fun x => tkD x.1 x.2, 0, 0)
  | .error (e, p) => ([], e, (p : Int))
theorem scan_f (s : ByteArray) : Glex_Scan.f s = some (scanD s.data.toList) := by
  unfold Glex_Scan.f scanD scanL
  rw [data_len]
  by_cases h : 40000 < s.size
  · rw [if_pos h, decide_eq_true (show (s.size : Int) > 40000 by omega), cond_true]
    rfl
  · rw [if_neg h, decide_eq_false (show ¬ (s.size : Int) > 40000 by omega), cond_false, keys_f, Option.bind_some]
    have hN := le_NN
    have := scan_l s (by omega) s.size 0 NN [] (by omega) (by omega) (by omega) (by simp)
    refine Eq.trans this ?_
    have hL : Lx s 0 = s.data.toList := rfl
    have hf := raw_fuel NN (k' := s.size + 1) (l := s.data.toList) (E := s.size) (by rw [data_len]; omega) (by rw [data_len]; omega)
    rw [hL, hf]
    have hr : rawL s.data.toList = rawF (s.size + 1) s.data.toList s.size := by unfold rawL; rw [data_len]
    rw [hr]
    unfold ansD limL
    simp only [List.length_nil, Nat.sub_zero, Nat.zero_add, List.nil_append]
    generalize rawF (s.size + 1) s.data.toList s.size = q
    cases q.toks.drop 20000 with
    | cons x r => rfl
    | nil =>
      simp only
      cases q.err with
      | some e => rfl
      | none =>
        simp only
        by_cases hq : q.toks.length = 20000
        · rw [if_pos hq, if_pos hq]
        · rw [if_neg hq, if_neg hq]
          simp only [List.map_append, List.map_cons, List.map_nil]
          rfl
end Go.Pv

namespace Go.Lx
theorem tok_err {l : List UInt8} {e : Int} (h : tokL l = .error e) : e ≠ 0 := by
  unfold tokL at h
  split at h
  · obtain rfl := Except.error.inj h; decide
  · split at h
    · split at h
      · obtain rfl := Except.error.inj h; decide
      · cases h
    · split at h
      · split at h
        · obtain rfl := Except.error.inj h; decide
        · cases h
      · split at h
        · split at h
          · obtain rfl := Except.error.inj h; decide
          · split at h
            · obtain rfl := Except.error.inj h; decide
            · cases h
        · split at h
          · split at h
            · obtain rfl := Except.error.inj h; decide
            · split at h
              · obtain rfl := Except.error.inj h; decide
              · split at h
                · cases h
                · obtain rfl := Except.error.inj h; decide
          · split at h
            · split at h
              · obtain rfl := Except.error.inj h; decide
              · split at h
                · obtain rfl := Except.error.inj h; decide
                · cases h
            · split at h
              · obtain rfl := Except.error.inj h; decide
              · cases h
theorem raw_err_ne : ∀ (k : Nat) {l : List UInt8} {E : Nat} {e : Int}, (rawF k l E).err = some e → e ≠ 0
  | 0, l, E, e, h => by cases h
  | k + 1, l, E, e, h => by
    cases hs : skipA false l with
    | nil => rw [raw_nil hs] at h; cases h
    | cons c r =>
      cases ht : tokL (c :: r) with
      | error e' =>
        rw [raw_err hs ht] at h
        obtain rfl := Option.some.inj h
        exact tok_err ht
      | ok z =>
        obtain ⟨t, n⟩ := z
        rw [raw_ok hs ht] at h
        exact raw_err_ne k h
/-- Of two texts with a line feed between them. -/
theorem rawL_two (a b : List UInt8) : rawL (a ++ 10 :: b) = match (rawL a).err with
      | some _ => rawL a
      | none => ⟨(rawL a).toks ++ ((rawL b).up (a.length + 1)).toks, (rawL b).err, (rawL b).p + (a.length + 1)⟩ := by
  unfold rawL
  have hlen : (a ++ 10 :: b).length = a.length + (b.length + 1) := by simp
  have h := raw_two b (a.length + 1) (k' := (a ++ 10 :: b).length + 1) (k'' := b.length + 1) (l := a) (E := a.length) (by omega) (by omega) (by omega)
  rw [hlen] at h ⊢
  rw [h]
  have hu := raw_up (a.length + 1) (b.length + 1) (l := b) (E := b.length) (Nat.le_refl _)
  rw [show a.length + (b.length + 1) = b.length + (a.length + 1) by omega, hu]
  cases (rawF (a.length + 1) a a.length).err <;> rfl
theorem rawL_p {l : List UInt8} (h : (rawL l).err = none) : (rawL l).p = l.length := (raw_rise (l.length + 1) (l := l) (E := l.length) (Nat.le_refl _)).2.2.1 h
theorem rawL_len (l : List UInt8) : (rawL l).toks.length ≤ l.length := raw_toks_len _
/-- The first error stays where it is. -/
theorem scan_first (a b : List UInt8) (hl : a.length + b.length < 40000) (e : Int) (p : Nat) (h : scanL a = .error (e, p)) (hne : ¬ (e = 2 ∧ p = a.length)) : scanL (a ++ 10 :: b) = .error (e, p) := by
  unfold scanL at h ⊢
  have hlen : (a ++ 10 :: b).length = a.length + (b.length + 1) := by simp
  rw [if_neg (by omega)] at h
  rw [if_neg (by omega), rawL_two]
  unfold limL at h
  cases hd : (rawL a).toks.drop 20000 with
  | cons x r =>
    rw [hd] at h
    have hr : (match (rawL a).err with
      | some _ => rawL a
      | none => (⟨(rawL a).toks ++ ((rawL b).up (a.length + 1)).toks, (rawL b).err, (rawL b).p + (a.length + 1)⟩ : Raw)).toks.drop 20000 = x :: (match (rawL a).err with | some _ => r | none => r ++ ((rawL b).up (a.length + 1)).toks) := by
      cases (rawL a).err with
      | some e' => exact hd
      | none =>
        have hlt : 20000 ≤ (rawL a).toks.length := by
          have := congrArg List.length hd
          rw [List.length_drop, List.length_cons] at this
          omega
        show ((rawL a).toks ++ _).drop 20000 = _
        rw [List.drop_append_of_le_length hlt, hd]; rfl
    unfold limL
    rw [hr]
    exact h
  | nil =>
    rw [hd] at h
    simp only at h
    cases he : (rawL a).err with
    | some e' =>
      rw [he] at h
      simp only
      unfold limL
      rw [hd, he]
      exact h
    | none =>
      rw [he] at h
      simp only at h
      split at h
      · obtain ⟨rfl, rfl⟩ := Prod.mk.inj (Except.error.inj h)
        exact absurd ⟨rfl, rawL_p he⟩ hne
      · cases h
/-- If there is an error in the first text, there is one in both. -/
theorem scan_two_err (a b : List UInt8) (hl : a.length + b.length < 40000) (e : Int) (p : Nat) (h : scanL a = .error (e, p)) : ∃ e' p', scanL (a ++ 10 :: b) = .error (e', p') ∧ e' ≠ 0 := by
  by_cases hne : e = 2 ∧ p = a.length
  · obtain ⟨rfl, rfl⟩ := hne
    -- an error by the limit at the end: there are as many tokens
    have hlen : (a ++ 10 :: b).length = a.length + (b.length + 1) := by simp
    unfold scanL at h ⊢
    rw [if_neg (by omega)] at h
    rw [if_neg (by omega), rawL_two]
    unfold limL at h ⊢
    cases hd : (rawL a).toks.drop 20000 with
    | cons x r =>
      have hlt : 20000 ≤ (rawL a).toks.length := by
        have := congrArg List.length hd
        rw [List.length_drop, List.length_cons] at this
        omega
      cases he : (rawL a).err with
      | some e' =>
        simp only
        rw [hd]
        exact ⟨2, x.2, rfl, by decide⟩
      | none =>
        simp only
        rw [List.drop_append_of_le_length hlt, hd]
        exact ⟨2, x.2, rfl, by decide⟩
    | nil =>
      rw [hd] at h
      simp only at h
      cases he : (rawL a).err with
      | some e' =>
        simp only
        rw [hd, he]
        exact ⟨e', _, rfl, raw_err_ne _ he⟩
      | none =>
        rw [he] at h
        simp only at h
        split at h
        · rename_i hl2
          simp only
          rw [List.drop_append_of_le_length (by omega), hd, List.nil_append]
          cases hu : ((rawL b).up (a.length + 1)).toks with
          | cons x r => exact ⟨2, x.2, rfl, by decide⟩
          | nil =>
            simp only
            cases hbe : (rawL b).err with
            | some e' => exact ⟨e', _, rfl, raw_err_ne _ hbe⟩
            | none =>
              simp only [List.append_nil]
              rw [if_pos hl2]
              exact ⟨2, _, rfl, by decide⟩
        · cases h
  · refine ⟨e, p, scan_first a b hl e p h hne, ?_⟩
    unfold scanL at h
    rw [if_neg (by omega)] at h
    unfold limL at h
    cases hd : (rawL a).toks.drop 20000 with
    | cons x r => rw [hd] at h; obtain ⟨rfl, rfl⟩ := Prod.mk.inj (Except.error.inj h); decide
    | nil =>
      rw [hd] at h
      simp only at h
      cases he : (rawL a).err with
      | some e' =>
        rw [he] at h
        obtain ⟨rfl, rfl⟩ := Prod.mk.inj (Except.error.inj h)
        exact raw_err_ne _ he
      | none =>
        rw [he] at h
        simp only at h
        split at h
        · obtain ⟨rfl, rfl⟩ := Prod.mk.inj (Except.error.inj h); decide
        · cases h
/-- What it means that a text has tokens. -/
theorem scan_ok {l : List UInt8} {t : List (Tk × Nat)} (h : scanL l = .ok t) : l.length ≤ 40000 ∧ (rawL l).err = none ∧ (rawL l).toks.length < 20000 ∧ t = (rawL l).toks ++ [(⟨0, [], 0⟩, l.length)] := by
  unfold scanL at h
  split at h
  · cases h
  · rename_i hl
    unfold limL at h
    cases hd : (rawL l).toks.drop 20000 with
    | cons x r => rw [hd] at h; cases h
    | nil =>
      rw [hd] at h
      simp only at h
      have hlen : (rawL l).toks.length ≤ 20000 := by
        have := congrArg List.length hd
        rw [List.length_drop, List.length_nil] at this
        omega
      cases he : (rawL l).err with
      | some e => rw [he] at h; cases h
      | none =>
        rw [he] at h
        simp only at h
        split at h
        · cases h
        · obtain rfl := Except.ok.inj h
          refine ⟨by omega, rfl, by omega, ?_⟩
          rw [rawL_p he]
theorem scan_of {l : List UInt8} (h1 : l.length ≤ 40000) (h2 : (rawL l).err = none) (h3 : (rawL l).toks.length < 20000) : scanL l = .ok ((rawL l).toks ++ [(⟨0, [], 0⟩, l.length)]) := by
  unfold scanL
  rw [if_neg (by omega)]
  unfold limL
  rw [List.drop_eq_nil_of_le (by omega), h2]
  simp only
  rw [if_neg (by omega), rawL_p h2]
theorem scan_err_of {l : List UInt8} {e : Int} (h1 : l.length ≤ 40000) (h2 : (rawL l).err = some e) (h3 : (rawL l).toks.length < 20000) : scanL l = .error (e, (rawL l).p) := by
  unfold scanL
  rw [if_neg (by omega)]
  unfold limL
  rw [List.drop_eq_nil_of_le (by omega), h2]
abbrev upT (d : Nat) (x : Tk × Nat) : Tk × Nat := (x.1, x.2 + d)
theorem scan_two (a b : List UInt8) (hl : a.length + b.length < 40000) (t : List (Tk × Nat)) (h : scanL a = .ok t) (hb : t.length + b.length + 1 ≤ 20000) :
    (∀ e p, scanL b = .error (e, p) → scanL (a ++ 10 :: b) = .error (e, p + a.length + 1)) ∧ (∀ u, scanL b = .ok u → scanL (a ++ 10 :: b) = .ok (t.take (t.length - 1) ++ u.map (upT (a.length + 1)))) := by
  obtain ⟨h1, h2, h3, rfl⟩ := scan_ok h
  have hlen : (a ++ 10 :: b).length = a.length + (b.length + 1) := by simp
  have h2r := rawL_two a b
  rw [h2] at h2r
  simp only at h2r
  have hbl := rawL_len b
  simp only [List.length_append, List.length_cons, List.length_nil] at hb
  have ht : (rawL (a ++ 10 :: b)).toks.length < 20000 := by
    rw [h2r]
    simp only [List.length_append, Raw.up, List.length_map]
    omega
  refine ⟨fun e p hbe => ?_, fun u hu => ?_⟩
  · have hbe' : (rawL b).err = some e ∧ (rawL b).p = p := by
      unfold scanL at hbe
      rw [if_neg (by omega)] at hbe
      unfold limL at hbe
      rw [List.drop_eq_nil_of_le (by omega)] at hbe
      simp only at hbe
      cases he : (rawL b).err with
      | some e' =>
        rw [he] at hbe
        obtain ⟨rfl, rfl⟩ := Prod.mk.inj (Except.error.inj hbe)
        exact ⟨rfl, rfl⟩
      | none =>
        rw [he] at hbe
        simp only at hbe
        rw [if_neg (by omega)] at hbe
        cases hbe
    rw [scan_err_of (e := e) (by omega) (by rw [h2r]; exact hbe'.1) ht, h2r]
    simp only [hbe'.2]
    rw [Nat.add_assoc]
  · obtain ⟨u1, u2, u3, rfl⟩ := scan_ok hu
    rw [scan_of (by omega) (by rw [h2r]; exact u2) ht, h2r, hlen]
    simp only [List.length_append, List.length_cons, List.length_nil, Nat.zero_add, Nat.add_sub_cancel]
    rw [List.take_append_of_le_length (Nat.le_refl _), List.take_length, List.map_append, List.map_cons, List.map_nil, List.append_assoc]
    simp only [Raw.up, upT]
    rw [show b.length + (a.length + 1) = a.length + (b.length + 1) by omega]
/-- Places rise. -/
theorem scan_rise {l : List UInt8} {t : List (Tk × Nat)} (h : scanL l = .ok t) : t.Pairwise (fun x y => x.2 < y.2) := by
  obtain ⟨h1, h2, h3, rfl⟩ := scan_ok h
  obtain ⟨r1, r2, r3, r4, r5⟩ := raw_rise (l.length + 1) (l := l) (E := l.length) (Nat.le_refl _)
  rw [List.pairwise_append]
  refine ⟨r2, List.pairwise_singleton _ _, fun x hx y hy => ?_⟩
  obtain rfl := List.mem_singleton.1 hy
  exact (r1 x hx).2
theorem scan_at_le {l : List UInt8} {t : List (Tk × Nat)} (h : scanL l = .ok t) : ∀ x ∈ t, x.2 ≤ l.length := by
  obtain ⟨h1, h2, h3, rfl⟩ := scan_ok h
  obtain ⟨r1, r2, r3, r4, r5⟩ := raw_rise (l.length + 1) (l := l) (E := l.length) (Nat.le_refl _)
  intro x hx
  rcases List.mem_append.1 hx with hx | hx
  · exact Nat.le_of_lt (r1 x hx).2
  · obtain rfl := List.mem_singleton.1 hx
    exact Nat.le_refl _
/-- An error lies within the text. -/
theorem scan_err_le {l : List UInt8} {e : Int} {p : Nat} (h : scanL l = .error (e, p)) : p ≤ l.length ∧ e ≠ 0 := by
  unfold scanL at h
  split at h
  · obtain ⟨rfl, rfl⟩ := Prod.mk.inj (Except.error.inj h); exact ⟨Nat.zero_le _, by decide⟩
  · obtain ⟨r1, r2, r3, r4, r5⟩ := raw_rise (l.length + 1) (l := l) (E := l.length) (Nat.le_refl _)
    unfold limL at h
    cases hd : (rawL l).toks.drop 20000 with
    | cons x r =>
      rw [hd] at h
      obtain ⟨rfl, rfl⟩ := Prod.mk.inj (Except.error.inj h)
      have hx : x ∈ (rawL l).toks := List.mem_of_mem_drop (i := 20000) (by rw [hd]; exact List.mem_cons_self ..)
      exact ⟨Nat.le_of_lt (r1 x hx).2, by decide⟩
    | nil =>
      rw [hd] at h
      simp only at h
      cases he : (rawL l).err with
      | some e' =>
        rw [he] at h
        obtain ⟨rfl, rfl⟩ := Prod.mk.inj (Except.error.inj h)
        exact ⟨r4, raw_err_ne _ he⟩
      | none =>
        rw [he] at h
        simp only at h
        split at h
        · obtain ⟨rfl, rfl⟩ := Prod.mk.inj (Except.error.inj h); exact ⟨r4, by decide⟩
        · cases h
/-- A text that is cut where a token begins has the tokens before it. -/
theorem scan_cut {l : List UInt8} {t : List (Tk × Nat)} (h : scanL l = .ok t) (j : Nat) (hj : j < t.length) : scanL (l.take t[j].2) = .ok (t.take j ++ [(⟨0, [], 0⟩, t[j].2)]) := by
  have hle := scan_at_le h t[j] (List.getElem_mem hj)
  obtain ⟨h1, h2, h3, rfl⟩ := scan_ok h
  have hlen : (l.take ((rawL l).toks ++ [((⟨0, [], 0⟩ : Tk), l.length)])[j].2).length = ((rawL l).toks ++ [((⟨0, [], 0⟩ : Tk), l.length)])[j].2 := by rw [List.length_take]; omega
  by_cases hjl : j < (rawL l).toks.length
  · have hg : ((rawL l).toks ++ [((⟨0, [], 0⟩ : Tk), l.length)])[j] = (rawL l).toks[j] := List.getElem_append_left hjl
    rw [hg] at hle hlen ⊢
    have hget : (rawL l).toks[j]? = some ((rawL l).toks[j].1, (rawL l).toks[j].2) := List.getElem?_eq_getElem hjl
    have hc := raw_cut (l.length + 1) (k' := l.length + 1) (l := l) (E := l.length) (Nat.le_refl _) hget (by omega)
    rw [show l.length - (l.length - (rawL l).toks[j].2) = (rawL l).toks[j].2 by omega] at hc
    have hr : rawL (l.take (rawL l).toks[j].2) = ⟨(rawL l).toks.take j, none, (rawL l).toks[j].2⟩ := by
      unfold rawL at hc hlen ⊢
      rw [hlen, ← hc]
      have hle2 : (l.take (rawL l).toks[j].2).length ≤ l.length := List.length_take_le' _ _
      exact raw_fuel _ (by rw [hlen]; exact Nat.lt_succ_self _) (Nat.lt_succ_of_le hle2)
    rw [scan_of (by rw [hlen]; omega) (by rw [hr]) (by rw [hr]; simp only [List.length_take]; omega), hr, hlen, List.take_append_of_le_length (by omega)]
  · have hje : j = (rawL l).toks.length := by simp only [List.length_append, List.length_cons, List.length_nil] at hj; omega
    subst hje
    have hg : ((rawL l).toks ++ [((⟨0, [], 0⟩ : Tk), l.length)])[(rawL l).toks.length] = (⟨0, [], 0⟩, l.length) := by simp
    rw [hg]
    simp only
    rw [List.take_length, scan_of h1 h2 h3, List.take_left]
/-- Blanks and a comment that are put in ahead of a token change nothing but places. -/
theorem scan_ins {l : List UInt8} {t : List (Tk × Nat)} (h : scanL l = .ok t) (j : Nat) (hj : j < t.length) (hl : l.length + 7 ≤ 40000) : ∃ u, scanL (l.take t[j].2 ++ (insU ++ l.drop t[j].2)) = .ok u ∧ u.map (·.1) = t.map (·.1) := by
  have hle := scan_at_le h t[j] (List.getElem_mem hj)
  obtain ⟨h1, h2, h3, rfl⟩ := scan_ok h
  generalize hp : ((rawL l).toks ++ [((⟨0, [], 0⟩ : Tk), l.length)])[j].2 = p at hle
  have hcase : (∃ t, (rawF (l.length + 1) l l.length).toks[j]? = some (t, l.length - (l.length - p)) ∧ l.length - p ≤ l.length) ∨ (j = (rawF (l.length + 1) l l.length).toks.length ∧ (rawF (l.length + 1) l l.length).err = none ∧ l.length - p = 0) := by
    by_cases hjl : j < (rawL l).toks.length
    · have hg : ((rawL l).toks ++ [((⟨0, [], 0⟩ : Tk), l.length)])[j] = (rawL l).toks[j] := List.getElem_append_left hjl
      rw [hg] at hp
      refine .inl ⟨(rawL l).toks[j].1, ?_, by omega⟩
      rw [show l.length - (l.length - p) = p by omega, ← hp]
      exact List.getElem?_eq_getElem hjl
    · have hje : j = (rawL l).toks.length := by simp only [List.length_append, List.length_cons, List.length_nil] at hj; omega
      have hg : ((rawL l).toks ++ [((⟨0, [], 0⟩ : Tk), l.length)])[j] = (⟨0, [], 0⟩, l.length) := by subst hje; simp
      rw [hg] at hp
      exact .inr ⟨hje, h2, by simp only at hp; omega⟩
  have hi := raw_ins (l.length + 1) (k' := l.length + 8) (l := l) (E := l.length) (j := j) (d := l.length - p) (Nat.le_refl _) (by omega) hcase (by omega)
  rw [show l.length - (l.length - p) = p by omega] at hi
  have hlen : (l.take p ++ (insU ++ l.drop p)).length = l.length + 7 := by
    simp only [List.length_append, List.length_take, List.length_drop, insU, List.length_cons, List.length_nil]; omega
  have hr : rawL (l.take p ++ (insU ++ l.drop p)) = rawF (l.length + 8) (l.take p ++ (insU ++ l.drop p)) (l.length + 7) := by
    unfold rawL; rw [hlen]
  rw [hi] at hr
  have hfold : rawF (l.length + 1) l l.length = rawL l := rfl
  rw [hfold] at hr
  refine ⟨_, scan_of (by rw [hlen]; omega) (by rw [hr]; exact h2) (by rw [hr]; simp only [List.length_append, List.length_take, List.length_map, List.length_drop]; omega), ?_⟩
  rw [hr]
  simp only [List.map_append, List.map_map, List.map_take, List.map_drop, List.map_cons, List.map_nil]
  have : ((fun x : Tk × Nat => x.1) ∘ fun x : Tk × Nat => (x.1, x.2 + 7)) = fun x => x.1 := rfl
  rw [this, List.take_append_drop]
end Go.Lx

namespace Go.Pv
open Go.Lx
set_option maxRecDepth 20000
theorem awake_f : Gw02_awake.f = some true := by
  unfold Gw02_awake.f
  rw [scan_f]
  kernel_rfl
theorem scanD_ok {l : List UInt8} {t : List (Tk × Nat)} (h : scanL l = .ok t) : scanD l = (t.map (fun x => tkD x.1 x.2), 0, 0) := by unfold scanD; rw [h]
theorem scanD_err {l : List UInt8} {e : Int} {p : Nat} (h : scanL l = .error (e, p)) : scanD l = ([], e, (p : Int)) := by unfold scanD; rw [h]
theorem app_data (x y : ByteArray) : (x ++ y).data.toList = x.data.toList ++ y.data.toList := by
  simp [ByteArray.data_append]
theorem app_size (x y : ByteArray) : (x ++ y).size = x.size + y.size := by
  rw [← data_len, app_data, List.length_append, data_len, data_len]
theorem lf_data (a b : ByteArray) : ((a ++ str0a) ++ b).data.toList = a.data.toList ++ 10 :: b.data.toList := by
  rw [app_data, app_data, List.append_assoc]; rfl
theorem law_first (a b : ByteArray) (ha : a.size ≤ 140737488355328) (hb : b.size ≤ 140737488355328) : Gw02_LexFirst.f a b = some true := by
  unfold Gw02_LexFirst.f
  rw [awake_f, w64 _ (by omega)]
  by_cases h : a.size + b.size < 40000
  · have h0 : str0a.size = 1 := rfl
    rw [decide_eq_false (show ¬ ((a.size : Int) + (b.size : Int)) ≥ 40000 by omega), cond_false, scan_f, Option.bind_some, gd_pos (decide_eq_true (show a.size + str0a.size ≤ maxS by unfold maxS; omega)), gd_pos (decide_eq_true (show (a ++ str0a).size + b.size ≤ maxS by rw [app_size]; unfold maxS; omega)), scan_f, Option.bind_some, lf_data]
    cases hs : scanL a.data.toList with
    | ok t => rw [scanD_ok hs]; rfl
    | error z =>
      obtain ⟨e, p⟩ := z
      rw [scanD_err hs]
      simp only
      by_cases hc : e = 2 ∧ p = a.size
      · obtain ⟨rfl, rfl⟩ := hc
        simp
      · rw [scanD_err (scan_first _ _ (by rw [data_len, data_len]; exact h) e p hs (by rw [data_len]; exact hc))]
        simp only [beq_self_eq_true, Bool.and_self, cond_true, Option.bind_some]
        cases ((e == 0) || ((e == 2) && ((p : Int) == (a.size : Int)))) <;> rfl
  · rw [decide_eq_true (show ((a.size : Int) + (b.size : Int)) ≥ 40000 by omega)]
    rfl
/-- A list of tokens equals itself. -/
theorem eqTok_l (l : List D) (hl : l.length ≤ 1000000) (κ : Unit → Option Bool) : ∀ (n i k : Nat), l.length - i ≤ n → n < k → i ≤ l.length → Gw02_eqTokens.l58 k l l (i : Int) κ = κ () := by
  intro n
  induction n with
  | zero =>
    intro i k h1 h2 h3
    obtain ⟨k, rfl⟩ : ∃ k', k = k' + 1 := ⟨k - 1, by omega⟩
    simp only [Gw02_eqTokens.l58]
    rw [decide_eq_false (show ¬ (i : Int) < (l.length : Int) by omega), cond_false]
  | succ n ih =>
    intro i k h1 h2 h3
    obtain ⟨k, rfl⟩ : ∃ k', k = k' + 1 := ⟨k - 1, by omega⟩
    simp only [Gw02_eqTokens.l58]
    by_cases hi : i < l.length
    · have hg : inB (i : Int) l.length = true := inB_pos ⟨by omega, by omega⟩
      rw [decide_eq_true (show (i : Int) < (l.length : Int) by omega), cond_true, gd_pos hg, gd_pos hg]
      simp only [beq_self_eq_true, Bool.and_self, Bool.not_true, cond_false]
      rw [w_succ _ (by omega)]
      exact ih (i + 1) k (by omega) (by omega) (by omega)
    · rw [decide_eq_false (show ¬ (i : Int) < (l.length : Int) by omega), cond_false]
theorem eqTok_f (l : List D) (hl : l.length ≤ 1000000) : Gw02_eqTokens.f l l = some true := by
  unfold Gw02_eqTokens.f
  have hN := le_NN
  have := eqTok_l l hl (fun _ => some true) l.length 0 NN (by omega) (by omega) (by omega)
  simp only [bne_self_eq_false, cond_false]
  exact this
theorem rd_tk : ∀ (t : List (Tk × Nat)) (i : Nat) (h : i < t.length), rd (t.map fun x => tkD x.1 x.2) i = tkD t[i].1 t[i].2
  | [], i, h => by simp at h
  | x :: r, 0, h => rfl
  | x :: r, i + 1, h => by simpa [rd] using rd_tk r i (by simpa using h)
theorem two_l (s : ByteArray) (hs : s.size ≤ 40000) (x : List D) (e : Int) (u : List (Tk × Nat)) (hu : u.length ≤ 20000) (hup : ∀ y ∈ u, y.2 ≤ 40000) (κ : (List D × Int × List D) → Option Bool) : ∀ (n i k : Nat) (acc : List D), u.length - i ≤ n → n < k → i ≤ u.length → acc.length ≤ 20000 + i →
    Gw02_LexTwo.l8186 k s (u.map fun x => tkD x.1 x.2) x e acc (i : Int) κ = κ (x, e, acc ++ ((u.drop i).map (upT (s.size + 1))).map fun x => tkD x.1 x.2) := by
  intro n
  induction n with
  | zero =>
    intro i k acc h1 h2 h3 h4
    obtain ⟨k, rfl⟩ : ∃ k', k = k' + 1 := ⟨k - 1, by omega⟩
    simp only [Gw02_LexTwo.l8186]
    rw [decide_eq_false (show ¬ (i : Int) < ((u.map fun x => tkD x.1 x.2).length : Int) by rw [List.length_map]; omega), cond_false, List.drop_eq_nil_of_le (by omega)]
    simp
  | succ n ih =>
    intro i k acc h1 h2 h3 h4
    obtain ⟨k, rfl⟩ : ∃ k', k = k' + 1 := ⟨k - 1, by omega⟩
    simp only [Gw02_LexTwo.l8186]
    by_cases hi : i < u.length
    · have hi' : i < (u.map fun x => tkD x.1 x.2).length := by simpa using hi
      have hp := hup _ (List.getElem_mem hi)
      rw [decide_eq_true (show (i : Int) < ((u.map fun x => tkD x.1 x.2).length : Int) by omega), cond_true, gd_pos (inB_pos ⟨by omega, by omega⟩), toNat_nat, gd_pos (blt_pos hi'), gd_pos (lim_pos (by simp; omega)), rd_tk u i hi, w_succ s.size (by omega), w_succ i (by omega)]
      have hw : IntKind.i64.wrap ((((tkD u[i].1 u[i].2).cell 3).int) + ((s.size + 1 : Nat) : Int)) = ((u[i].2 + (s.size + 1) : Nat) : Int) := by
        show IntKind.i64.wrap ((u[i].2 : Int) + ((s.size + 1 : Nat) : Int)) = _
        rw [w_add _ _ (by omega)]
      rw [hw, ih (i + 1) k _ (by omega) (by omega) (by omega) (by simp; omega), List.drop_eq_getElem_cons hi]
      simp only [List.map_cons, List.append_assoc, List.cons_append, List.nil_append]
      rfl
    · rw [decide_eq_false (show ¬ (i : Int) < ((u.map fun x => tkD x.1 x.2).length : Int) by rw [List.length_map]; omega), cond_false, List.drop_eq_nil_of_le (by omega)]
      simp
theorem law_two (a b : ByteArray) (ha : a.size ≤ 140737488355328) (hb : b.size ≤ 140737488355328) : Gw02_LexTwo.f a b = some true := by
  unfold Gw02_LexTwo.f
  rw [awake_f, w64 ((a.size : Int) + (b.size : Int)) (by omega)]
  by_cases h : a.size + b.size < 40000
  · have h0 : str0a.size = 1 := rfl
    rw [decide_eq_false (show ¬ ((a.size : Int) + (b.size : Int)) ≥ 40000 by omega), cond_false, scan_f, Option.bind_some, scan_f, Option.bind_some, gd_pos (decide_eq_true (show a.size + str0a.size ≤ maxS by unfold maxS; omega)), gd_pos (decide_eq_true (show (a ++ str0a).size + b.size ≤ maxS by rw [app_size]; unfold maxS; omega)), scan_f, Option.bind_some, lf_data]
    have hlen : a.data.toList.length + b.data.toList.length < 40000 := by rw [data_len, data_len]; exact h
    cases hs : scanL a.data.toList with
    | error z =>
      obtain ⟨e, p⟩ := z
      have he := (scan_err_le hs).2
      obtain ⟨e', p', h1, h2⟩ := scan_two_err _ b.data.toList hlen e p hs
      rw [scanD_err hs, scanD_err h1]
      simp only
      rw [show (e != 0) = true by rw [bne_iff_ne]; exact he, show (e' != 0) = true by rw [bne_iff_ne]; exact h2]
      rfl
    | ok t =>
      rw [scanD_ok hs]
      obtain ⟨t1, t2, t3, t4⟩ := scan_ok hs
      have htl : t.length = (rawL a.data.toList).toks.length + 1 := by rw [t4]; simp
      simp only [List.length_map]
      rw [w_add _ _ (by omega), w_succ _ (by omega)]
      by_cases hbig : t.length + b.size + 1 ≤ 20000
      · rw [decide_eq_false (show ¬ ((t.length + b.size + 1 : Nat) : Int) > 20000 by omega)]
        simp only [bne_self_eq_false, Bool.or_self, cond_false]
        obtain ⟨q1, q2⟩ := scan_two _ b.data.toList hlen t hs (by rw [data_len]; exact hbig)
        cases hu : scanL b.data.toList with
        | error z =>
          obtain ⟨e, p⟩ := z
          obtain ⟨hp, he⟩ := scan_err_le hu
          rw [data_len] at hp
          rw [scanD_err hu, scanD_err (q1 e p hu)]
          simp only
          rw [show (e != 0) = true by rw [bne_iff_ne]; exact he, cond_true, w_add p a.size (by omega), w_succ _ (by omega), data_len]
          simp
        | ok u =>
          obtain ⟨u1, u2, u3, u4⟩ := scan_ok hu
          have hul : u.length = (rawL b.data.toList).toks.length + 1 := by rw [u4]; simp
          have hup : ∀ y ∈ u, y.2 ≤ 40000 := fun y hy => by
            have := scan_at_le hu y hy
            omega
          rw [scanD_ok hu, scanD_ok (q2 u hu)]
          simp only [bne_self_eq_false, cond_false]
          rw [show ((t.length : Int) == 0) = false by rw [beq_eq_false_iff_ne]; omega, cond_false]
          have hw : IntKind.i64.wrap ((t.length : Int) - 1) = ((t.length - 1 : Nat) : Int) := by rw [w64 _ (by omega)]; omega
          rw [hw, gd_pos (by rw [decide_eq_true (show (0 : Int) ≤ ((t.length - 1 : Nat) : Int) by omega), decide_eq_true (show ((t.length - 1 : Nat) : Int) ≤ (t.length : Int) by omega)]; rfl), toNat_nat, List.drop_zero, gd_pos (lim_pos (by simp; omega))]
          have hN := le_NN
          have hk := two_l a (by omega) ((t.take (t.length - 1) ++ u.map (upT (a.data.toList.length + 1))).map fun x => tkD x.1 x.2) 0 u (by omega) hup (fun y7 => (bif (y7.2.1 == 0) then Gw02_eqTokens.f y7.1 y7.2.2 else some false).bind fun r8 => (bif ((y7.2.1 == 0) && r8) then some true else some false).bind fun r9 => some (((y7.2.1 == 0) && r8) && r9)) u.length 0 NN ((t.map fun x => tkD x.1 x.2).take (t.length - 1)) (by omega) (by omega) (by omega) (by simp; omega)
          refine Eq.trans hk ?_
          rw [List.drop_zero, ← List.map_take, ← List.map_append, data_len]
          simp only [beq_self_eq_true, cond_true]
          rw [eqTok_f _ (by simp; omega)]
          rfl
      · rw [decide_eq_true (show ((t.length + b.size + 1 : Nat) : Int) > 20000 by omega)]
        simp
  · rw [decide_eq_true (show ((a.size : Int) + (b.size : Int)) ≥ 40000 by omega)]
    rfl
/-- Places rise, as the law goes through them. -/
theorem rise_l (s : ByteArray) (k0 : Int) (t : List (Tk × Nat)) (hl : t.length ≤ 20000) (hr : t.Pairwise (fun x y => x.2 < y.2)) (κ : (ByteArray × Int × List D) → Option Bool) : ∀ (n i k : Nat), t.length - i ≤ n → n < k → 1 ≤ i →
    Gw02_LexRises.l250 k s k0 (t.map fun x => tkD x.1 x.2) (i : Int) κ = κ (s, k0, t.map fun x => tkD x.1 x.2) := by
  intro n
  induction n with
  | zero =>
    intro i k h1 h2 h3
    obtain ⟨k, rfl⟩ : ∃ k', k = k' + 1 := ⟨k - 1, by omega⟩
    simp only [Gw02_LexRises.l250]
    rw [decide_eq_false (show ¬ (i : Int) < ((t.map fun x => tkD x.1 x.2).length : Int) by rw [List.length_map]; omega), cond_false]
  | succ n ih =>
    intro i k h1 h2 h3
    obtain ⟨k, rfl⟩ : ∃ k', k = k' + 1 := ⟨k - 1, by omega⟩
    simp only [Gw02_LexRises.l250]
    by_cases hi : i < t.length
    · have hi' : i < (t.map fun x => tkD x.1 x.2).length := by simpa using hi
      have hw : IntKind.i64.wrap ((i : Int) - 1) = ((i - 1 : Nat) : Int) := by rw [w64 _ (by omega)]; omega
      have g1 : inB (i : Int) (t.map fun x => tkD x.1 x.2).length = true := inB_pos ⟨by omega, by omega⟩
      have g2 : inB ((i - 1 : Nat) : Int) (t.map fun x => tkD x.1 x.2).length = true := inB_pos ⟨by omega, by omega⟩
      have g3 : Nat.blt i (t.map fun x => tkD x.1 x.2).length = true := blt_pos hi'
      have g4 : Nat.blt (i - 1) (t.map fun x => tkD x.1 x.2).length = true := blt_pos (by omega)
      rw [hw, toNat_nat, toNat_nat, decide_eq_true (show (i : Int) < ((t.map fun x => tkD x.1 x.2).length : Int) by omega), cond_true, g1, g2, g3, g4, gd_pos rfl, gd_pos rfl, gd_pos rfl, gd_pos rfl, Bool.or_true, gd_pos rfl, gd_pos rfl, gd_pos rfl, gd_pos rfl, rd_tk t i hi, rd_tk t (i - 1) (by omega)]
      have hlt : t[i - 1].2 < t[i].2 := List.pairwise_iff_getElem.1 hr (i - 1) i (by omega) hi (by omega)
      have e1 : decide ((((tkD t[i].1 t[i].2).cell 3).int) < (((tkD t[i - 1].1 t[i - 1].2).cell 3).int)) = false := decide_eq_false (by
        show ¬ ((t[i].2 : Int) < (t[i - 1].2 : Int))
        omega)
      have e2 : ((((tkD t[i].1 t[i].2).cell 3).int) == (((tkD t[i - 1].1 t[i - 1].2).cell 3).int)) = false := by
        rw [beq_eq_false_iff_ne]
        show (t[i].2 : Int) ≠ (t[i - 1].2 : Int)
        omega
      rw [e1, e2, Bool.false_and, Bool.or_self, cond_false, w_succ _ (by omega)]
      exact ih (i + 1) k (by omega) (by omega) (by omega)
    · rw [decide_eq_false (show ¬ (i : Int) < ((t.map fun x => tkD x.1 x.2).length : Int) by rw [List.length_map]; omega), cond_false]
theorem ext0_data (s : ByteArray) (p : Nat) : (s.extract 0 p).data.toList = s.data.toList.take p := by
  rw [ext_data]; simp
theorem law_rises (s : ByteArray) (k : Int) (hk : -9223372036854775808 ≤ k ∧ k ≤ 9223372036854775807) : Gw02_LexRises.f s k = some true := by
  unfold Gw02_LexRises.f
  rw [awake_f, scan_f, Option.bind_some]
  cases hs : scanL s.data.toList with
  | error z =>
    obtain ⟨e, p⟩ := z
    obtain ⟨hp, he⟩ := scan_err_le hs
    rw [data_len] at hp
    rw [scanD_err hs]
    simp only
    rw [show (e != 0) = true by rw [bne_iff_ne]; exact he, cond_true, decide_eq_true (show (p : Int) ≥ 0 by omega), decide_eq_true (show (p : Int) ≤ (s.size : Int) by omega)]
    rfl
  | ok t =>
    obtain ⟨t1, t2, t3, t4⟩ := scan_ok hs
    have htl : t.length = (rawL s.data.toList).toks.length + 1 := by rw [t4]; simp
    rw [scanD_ok hs]
    simp only [List.length_map, bne_self_eq_false, cond_false, Bool.or_false]
    have hw : IntKind.i64.wrap ((t.length : Int) - 1) = ((t.length - 1 : Nat) : Int) := by rw [w64 _ (by omega)]; omega
    have g1 : inB ((t.length - 1 : Nat) : Int) t.length = true := inB_pos ⟨by omega, by omega⟩
    rw [hw, toNat_nat, g1, blt_pos (show t.length - 1 < t.length by omega), Bool.or_true, gd_pos rfl, gd_pos rfl, rd_tk t (t.length - 1) (by omega)]
    have hlast : t[t.length - 1]'(by omega) = (⟨0, [], 0⟩, s.data.toList.length) := by
      have : t[t.length - 1]? = some (⟨0, [], 0⟩, s.data.toList.length) := by
        rw [htl, Nat.add_sub_cancel, t4, List.getElem?_append_right (Nat.le_refl _)]
        simp
      rw [List.getElem?_eq_getElem (by omega)] at this
      exact Option.some.inj this
    rw [hlast, data_len]
    have hend : ((((tkD (⟨0, [], 0⟩ : Tk) s.size).cell 0).int == 0) && (((((tkD (⟨0, [], 0⟩ : Tk) s.size).cell 1).str).toList == ByteArray.empty.toList) && (((((tkD (⟨0, [], 0⟩ : Tk) s.size).cell 2).int) == 0) && (((((tkD (⟨0, [], 0⟩ : Tk) s.size).cell 3).int) == (s.size : Int)) && true)))) = true := by
      have e3 : ((((tkD (⟨0, [], 0⟩ : Tk) s.size).cell 3).int) == (s.size : Int)) = true := beq_self_eq_true (s.size : Int)
      have e1 : ((((tkD (⟨0, [], 0⟩ : Tk) s.size).cell 1).str).toList == ByteArray.empty.toList) = true := by
        rw [show ((tkD (⟨0, [], 0⟩ : Tk) s.size).cell 1).str = ByteArray.empty from rfl]
        exact beq_self_eq_true _
      rw [e3, e1]; rfl
    rw [hend, show ((t.length : Int) == 0) = false by rw [beq_eq_false_iff_ne]; omega]
    simp only [Bool.not_true, Bool.or_self, cond_false]
    have hN := le_NN
    have hkk := rise_l s k t (by omega) (scan_rise hs) (fun y3 => bif ((decide (y3.2.1 < 0)) || (decide (y3.2.1 ≥ (y3.2.2.length : Int)))) then ((some true : Option Bool)).bind fun r4 => some r4 else gd (inB y3.2.1 y3.2.2.length) (gd (Nat.blt y3.2.1.toNat y3.2.2.length) (gd (decide (0 ≤ (((rd y3.2.2 y3.2.1.toNat).cell 3).int)) && decide ((((rd y3.2.2 y3.2.1.toNat).cell 3).int) ≤ (y3.1.size : Int))) ((Glex_Scan.f (y3.1.extract 0 (((rd y3.2.2 y3.2.1.toNat).cell 3).int).toNat)).bind fun r5 => gd (decide (0 ≤ y3.2.1) && decide (y3.2.1 ≤ (y3.2.2.length : Int))) (gd (Nat.ble ((y3.2.2.take y3.2.1.toNat).drop 0).length lim) (gd (inB y3.2.1 y3.2.2.length) (gd (Nat.blt y3.2.1.toNat y3.2.2.length) (gd (Nat.ble (((y3.2.2.take y3.2.1.toNat).drop 0).length + ([.r [.i 0, .s ByteArray.empty, .i 0, .i (((rd y3.2.2 y3.2.1.toNat).cell 3).int)]] : List D).length) lim) ((bif (r5.2.1 == 0) then Gw02_eqTokens.f r5.1 (((y3.2.2.take y3.2.1.toNat).drop 0) ++ ([.r [.i 0, .s ByteArray.empty, .i 0, .i (((rd y3.2.2 y3.2.1.toNat).cell 3).int)]] : List D)) else some false).bind fun r6 => (bif ((r5.2.1 == 0) && r6) then (some true : Option Bool) else some false).bind fun r7 => some (((r5.2.1 == 0) && r6) && r7))))))))))
      t.length 1 NN (by omega) (by omega) (by omega)
    refine Eq.trans hkk ?_
    simp only [List.length_map]
    by_cases hin : 0 ≤ k ∧ k < (t.length : Int)
    · obtain ⟨j, rfl⟩ : ∃ j : Nat, k = j := ⟨k.toNat, by omega⟩
      have hj : j < t.length := by omega
      rw [decide_eq_false (show ¬ (j : Int) < 0 by omega), decide_eq_false (show ¬ (j : Int) ≥ (t.length : Int) by omega)]
      have g1 : inB (j : Int) t.length = true := inB_pos ⟨by omega, by omega⟩
      have g2 : Nat.blt j t.length = true := blt_pos hj
      have hle := scan_at_le hs t[j] (List.getElem_mem hj)
      rw [data_len] at hle
      have hcell : ((rd (t.map fun x => tkD x.1 x.2) j).cell 3).int = (t[j].2 : Int) := by rw [rd_tk t j hj]; rfl
      rw [toNat_nat, hcell, g1, g2, toNat_nat]
      simp only [Bool.or_self, cond_false]
      rw [gd_pos rfl, gd_pos rfl, gd_pos (by rw [decide_eq_true (show (0 : Int) ≤ (t[j].2 : Int) by omega), decide_eq_true (show (t[j].2 : Int) ≤ (s.size : Int) by omega)]; rfl), scan_f, Option.bind_some, ext0_data, scanD_ok (scan_cut hs j hj)]
      rw [gd_pos (by rw [decide_eq_true (show (0 : Int) ≤ (j : Int) by omega), decide_eq_true (show (j : Int) ≤ (t.length : Int) by omega)]; rfl), gd_pos (lim_pos (by simp; omega)), gd_pos rfl, gd_pos rfl, gd_pos (lim_pos (by simp; omega))]
      have he : ((t.map fun x => tkD x.1 x.2).take j).drop 0 ++ ([.r [.i 0, .s ByteArray.empty, .i 0, .i (t[j].2 : Int)]] : List D) = (t.take j ++ [((⟨0, [], 0⟩ : Tk), t[j].2)]).map fun x => tkD x.1 x.2 := by
        rw [List.drop_zero, List.map_append, List.map_take]; rfl
      rw [he]
      simp only [beq_self_eq_true, cond_true]
      rw [eqTok_f _ (by simp; omega)]
      rfl
    · have : (decide (k < 0) || decide (k ≥ (t.length : Int))) = true := by
        rw [Bool.or_eq_true, decide_eq_true_eq, decide_eq_true_eq]; omega
      rw [this]; rfl
/-- Tokens are alike but for their places. -/
theorem alike_l (t u : List (Tk × Nat)) (hl : t.length ≤ 1000000) (h : u.map (·.1) = t.map (·.1)) (κ : Unit → Option Bool) : ∀ (n i k : Nat), t.length - i ≤ n → n < k → i ≤ t.length → Gw02_alike.l58 k (t.map fun x => tkD x.1 x.2) (u.map fun x => tkD x.1 x.2) (i : Int) κ = κ () := by
  have hlen : u.length = t.length := by simpa using congrArg List.length h
  intro n
  induction n with
  | zero =>
    intro i k h1 h2 h3
    obtain ⟨k, rfl⟩ : ∃ k', k = k' + 1 := ⟨k - 1, by omega⟩
    simp only [Gw02_alike.l58]
    rw [decide_eq_false (show ¬ (i : Int) < ((t.map fun x => tkD x.1 x.2).length : Int) by rw [List.length_map]; omega), cond_false]
  | succ n ih =>
    intro i k h1 h2 h3
    obtain ⟨k, rfl⟩ : ∃ k', k = k' + 1 := ⟨k - 1, by omega⟩
    simp only [Gw02_alike.l58]
    by_cases hi : i < t.length
    · have g1 : inB (i : Int) (t.map fun x => tkD x.1 x.2).length = true := inB_pos ⟨by omega, by rw [List.length_map]; omega⟩
      have g2 : inB (i : Int) (u.map fun x => tkD x.1 x.2).length = true := inB_pos ⟨by omega, by rw [List.length_map]; omega⟩
      rw [decide_eq_true (show (i : Int) < ((t.map fun x => tkD x.1 x.2).length : Int) by rw [List.length_map]; omega), cond_true, g1, g2]
      simp only [Bool.or_true]
      rw [gd_pos rfl, gd_pos rfl, gd_pos rfl, gd_pos rfl, gd_pos rfl, gd_pos rfl, toNat_nat, rd_tk t i hi, rd_tk u i (by omega)]
      have heq : u[i].1 = t[i].1 := by
        have h1 := congrArg (fun l => l[i]?) h
        simp only [List.getElem?_map] at h1
        rw [List.getElem?_eq_getElem (by omega), List.getElem?_eq_getElem hi] at h1
        simpa using h1
      have c0 : ((tkD t[i].1 t[i].2).cell 0).int = ((tkD u[i].1 u[i].2).cell 0).int := by rw [heq]; rfl
      have c1 : ((tkD t[i].1 t[i].2).cell 1).str = ((tkD u[i].1 u[i].2).cell 1).str := by rw [heq]; rfl
      have c2 : ((tkD t[i].1 t[i].2).cell 2).int = ((tkD u[i].1 u[i].2).cell 2).int := by rw [heq]; rfl
      rw [c0, c1, c2]
      simp only [bne_self_eq_false, beq_self_eq_true, Bool.not_true, Bool.or_self, cond_false]
      rw [w_succ _ (by omega)]
      exact ih (i + 1) k (by omega) (by omega) (by omega)
    · rw [decide_eq_false (show ¬ (i : Int) < ((t.map fun x => tkD x.1 x.2).length : Int) by rw [List.length_map]; omega), cond_false]
theorem alike_f (t u : List (Tk × Nat)) (hl : t.length ≤ 1000000) (h : u.map (·.1) = t.map (·.1)) : Gw02_alike.f (t.map fun x => tkD x.1 x.2) (u.map fun x => tkD x.1 x.2) = some true := by
  have hlen : u.length = t.length := by simpa using congrArg List.length h
  unfold Gw02_alike.f
  have hN := le_NN
  have := alike_l t u hl h (fun _ => some true) t.length 0 NN (by omega) (by omega) (by omega)
  rw [List.length_map, List.length_map, hlen]
  simp only [bne_self_eq_false, cond_false]
  exact this
theorem law_blanks (s : ByteArray) (hs : s.size ≤ 140737488355328) (k : Int) : Gw02_LexBlanks.f s k = some true := by
  unfold Gw02_LexBlanks.f
  rw [awake_f, scan_f, Option.bind_some, w64 _ (by omega)]
  cases hsc : scanL s.data.toList with
  | error z =>
    obtain ⟨e, p⟩ := z
    obtain ⟨hp, he⟩ := scan_err_le hsc
    rw [scanD_err hsc]
    simp only
    rw [show (e != 0) = true by rw [bne_iff_ne]; exact he]
    rfl
  | ok t =>
    obtain ⟨t1, t2, t3, t4⟩ := scan_ok hsc
    have htl : t.length = (rawL s.data.toList).toks.length + 1 := by rw [t4]; simp
    rw [scanD_ok hsc]
    simp only [List.length_map]
    by_cases hin : 0 ≤ k ∧ k < (t.length : Int) ∧ s.size + 8 ≤ 40000
    · obtain ⟨j, rfl⟩ : ∃ j : Nat, k = j := ⟨k.toNat, by omega⟩
      have hj : j < t.length := by omega
      rw [decide_eq_false (show ¬ (j : Int) < 0 by omega), decide_eq_false (show ¬ (j : Int) ≥ (t.length : Int) by omega), decide_eq_false (show ¬ ((s.size : Int) + 8) > 40000 by omega)]
      have g1 : inB (j : Int) t.length = true := inB_pos ⟨by omega, by omega⟩
      have g2 : Nat.blt j t.length = true := blt_pos hj
      have hle := scan_at_le hsc t[j] (List.getElem_mem hj)
      rw [data_len] at hle
      have hcell : ((rd (t.map fun x => tkD x.1 x.2) j).cell 3).int = (t[j].2 : Int) := by rw [rd_tk t j hj]; rfl
      have h7 : str09202f2f2a200a.size = 7 := rfl
      have hz1 : (s.extract 0 t[j].2).size = t[j].2 := by rw [ext_size _ _ _ hle]; rfl
      have hz2 : (s.extract t[j].2 s.size).size = s.size - t[j].2 := ext_size _ _ _ (Nat.le_refl _)
      have hg : (decide ((0 : Int) ≤ (t[j].2 : Int)) && decide ((t[j].2 : Int) ≤ (s.size : Int))) = true := by
        rw [decide_eq_true (show (0 : Int) ≤ (t[j].2 : Int) by omega), decide_eq_true (show (t[j].2 : Int) ≤ (s.size : Int) by omega)]; rfl
      rw [toNat_nat, hcell, g1, g2, toNat_nat]
      simp only [bne_self_eq_false, Bool.or_self, cond_false]
      rw [gd_pos rfl, gd_pos rfl, gd_pos hg, gd_pos (decide_eq_true (by rw [hz1]; unfold maxS; omega)), gd_pos rfl, gd_pos rfl, gd_pos hg, gd_pos (decide_eq_true (by rw [app_size, hz1, hz2]; unfold maxS; omega)), scan_f, Option.bind_some]
      have hd : (((s.extract 0 t[j].2) ++ str09202f2f2a200a) ++ (s.extract t[j].2 s.size)).data.toList = s.data.toList.take t[j].2 ++ (insU ++ s.data.toList.drop t[j].2) := by
        have hx : (s.extract t[j].2 s.size).data.toList = s.data.toList.drop t[j].2 := by rw [ext_data, List.take_of_length_le (by rw [Lx_len]; omega)]
        rw [app_data, app_data, ext0_data, hx, List.append_assoc]; rfl
      rw [hd]
      obtain ⟨u, q1, q2⟩ := scan_ins hsc j hj (by rw [data_len]; omega)
      rw [scanD_ok q1]
      simp only [beq_self_eq_true, cond_true]
      rw [alike_f t u (by omega) q2]
      rfl
    · have : (((((0 : Int) != 0) || decide (k < 0)) || decide (k ≥ (t.length : Int))) || decide (((s.size : Int) + 8) > 40000)) = true := by
        simp only [bne_self_eq_false, Bool.false_or, Bool.or_eq_true, decide_eq_true_eq]; omega
      rw [this]; rfl
end Go.Pv

namespace Go.Pv
open Go.Lx
set_option maxRecDepth 20000
theorem rsmall_f (c : UInt8) : Gr02_isSmall.f (c.toNat : Int) = some (smU c) := small_f c
theorem rdigit_f (c : UInt8) : Gr02_isDigit.f (c.toNat : Int) = some (dgU c) := digit_f c
theorem rpart_f (c : UInt8) : Gr02_isPart.f (c.toNat : Int) = some (wdU c) := wordy_f c
theorem nib_f (c : UInt8) : Gr02_nibble.f (c.toNat : Int) = some (if hxU c then (dvU c : Int) else -1) := by
  have key : ∀ c : Fin 256, Gr02_nibble.f ((UInt8.ofNat c.val).toNat : Int) = some (if hxU (UInt8.ofNat c.val) then (dvU (UInt8.ofNat c.val) : Int) else -1) := by decide
  have hc := key ⟨c.toNat, c.toNat_lt⟩
  simp only [UInt8.ofNat_toNat] at hc
  exact hc
/-! ### What lies between tokens -/
def nlU (c : UInt8) : Bool := c.toNat != 10
theorem skip_tw : ∀ l : List UInt8, skipA true l = skipA false (l.drop (l.takeWhile nlU).length)
  | [] => by simp [skipA]
  | c :: r => by
    rw [skipA_t, List.takeWhile_cons]
    cases h : c.toNat == 10 with
    | true =>
      have hn : nlU c = false := by unfold nlU; rw [bne, h]; rfl
      rw [hn]
      have hb : blU c = true := by
        unfold blU; rw [h]; simp
      simp only [cond_true, Bool.false_eq_true, if_false, List.length_nil, List.drop_zero]
      rw [skipA_f, hb, cond_true]
    | false =>
      have hn : nlU c = true := by unfold nlU; rw [bne, h]; rfl
      rw [hn]
      simp only [cond_false, if_true, List.length_cons, List.drop_succ_cons]
      exact skip_tw r
theorem line_l (s : ByteArray) (hs : s.size ≤ 40000) (κ : (ByteArray × Int) → Option Int) : ∀ (n p k : Nat), s.size - p ≤ n → n < k → p ≤ s.size → Gr02_behind.l1582 k s (p : Int) κ = κ (s, ((p + ((Lx s p).takeWhile nlU).length : Nat) : Int)) := by
  intro n
  induction n with
  | zero =>
    intro p k h1 h2 h3
    obtain ⟨k, rfl⟩ : ∃ k', k = k' + 1 := ⟨k - 1, by omega⟩
    simp only [Gr02_behind.l1582]
    have hd : decide ((p : Int) < (s.size : Int)) = false := decide_eq_false (by omega)
    rw [hd, Lx_nil (by omega)]
    rfl
  | succ n ih =>
    intro p k h1 h2 h3
    obtain ⟨k, rfl⟩ : ∃ k', k = k' + 1 := ⟨k - 1, by omega⟩
    simp only [Gr02_behind.l1582]
    by_cases hp : p < s.size
    · obtain ⟨c, hc, hb⟩ := Lx_cons hp
      have hd : decide ((p : Int) < (s.size : Int)) = true := decide_eq_true (by omega)
      rw [hd, gd_pos (by rw [inB_pos ⟨by omega, by omega⟩]; rfl), toNat_nat, hb, Bool.true_and, hc, List.takeWhile_cons]
      have hn : ((c.toNat : Int) != 10) = nlU c := by
        unfold nlU
        rw [bne, bne, show ((c.toNat : Int) == 10) = (c.toNat == 10) from beqI c.toNat 10]
      rw [hn]
      cases hg : nlU c with
      | true =>
        rw [cond_true, w_succ _ (by omega), ih (p + 1) k (by omega) (by omega) (by omega)]
        simp only [if_true, List.length_cons]
        rw [show p + 1 + ((Lx s (p + 1)).takeWhile nlU).length = p + (((Lx s (p + 1)).takeWhile nlU).length + 1) by omega]
      | false => simp
    · have hd : decide ((p : Int) < (s.size : Int)) = false := decide_eq_false (by omega)
      rw [hd, Lx_nil (by omega)]
      rfl
theorem behind_l (s : ByteArray) (hs : s.size ≤ 40000) : ∀ (n p k : Nat), s.size - p ≤ n → n < k → p ≤ s.size → Gr02_behind.l12 k s (p : Int) (fun y => some y) = some ((s.size - (skipA false (Lx s p)).length : Nat) : Int) := by
  intro n
  induction n with
  | zero =>
    intro p k h1 h2 h3
    obtain ⟨k, rfl⟩ : ∃ k', k = k' + 1 := ⟨k - 1, by omega⟩
    simp only [Gr02_behind.l12]
    rw [decide_eq_false (show ¬ (p : Int) < (s.size : Int) by omega), Lx_nil (by omega), show p = s.size by omega]
    simp [skipA]
  | succ n ih =>
    intro p k h1 h2 h3
    obtain ⟨k, rfl⟩ : ∃ k', k = k' + 1 := ⟨k - 1, by omega⟩
    simp only [Gr02_behind.l12]
    by_cases hp : p < s.size
    · obtain ⟨c, hc, hb⟩ := Lx_cons hp
      rw [decide_eq_true (show (p : Int) < (s.size : Int) by omega), cond_true, gd_pos (inB_pos ⟨by omega, by omega⟩), toNat_nat, hb]
      have hbl : (((c.toNat : Int) == 32) || ((c.toNat : Int) == 9) || ((c.toNat : Int) == 10)) = blU c := by
        rw [show (32 : Int) = ((32 : Nat) : Int) from rfl, show (9 : Int) = ((9 : Nat) : Int) from rfl, show (10 : Int) = ((10 : Nat) : Int) from rfl, beqI, beqI, beqI, Bool.or_assoc]
        rfl
      rw [hbl, w_succ _ (by omega), toNat_nat]
      cases hB : blU c with
      | true =>
        rw [cond_true, ih (p + 1) k (by omega) (by omega) (by omega), hc, skipA_f, hB, cond_true]
      | false =>
        rw [cond_false]
        have h47 : ((c.toNat : Int) != 47) = !(c.toNat == 47) := by rw [bne, show ((c.toNat : Int) == 47) = (c.toNat == 47) from beqI c.toNat 47]
        have hno : (c.toNat == 47 && slashed (Lx s (p + 1))) = false → some (p : Int) = some ((s.size - (skipA false (Lx s p)).length : Nat) : Int) := fun hS => by
          have e : skipA false (Lx s p) = Lx s p := by rw [hc, skipA_f, hB, hS]; rfl
          rw [e, Lx_len, show s.size - (s.size - p) = p by omega]
        rw [h47]
        cases h1' : (c.toNat == 47) with
        | false =>
          have := hno (by rw [h1']; rfl)
          simp only [Bool.not_false, Bool.true_or, Bool.not_true, cond_true]
          rw [gd_pos rfl]
          exact this
        | true =>
          by_cases hp1 : p + 1 < s.size
          · obtain ⟨c1, hc1, hb1⟩ := Lx_cons hp1
            rw [decide_eq_false (show ¬ ((p + 1 : Nat) : Int) ≥ (s.size : Int) by omega), gd_pos (by rw [inB_pos ⟨by omega, by omega⟩]; rfl), hb1]
            have h47' : ((c1.toNat : Int) != 47) = !(c1.toNat == 47) := by rw [bne, show ((c1.toNat : Int) == 47) = (c1.toNat == 47) from beqI c1.toNat 47]
            rw [h47']
            cases h2' : (c1.toNat == 47) with
            | false =>
              have := hno (by rw [h1', hc1]; simp [slashed, h2'])
              simpa using this
            | true =>
              have hN := le_NN
              rw [line_l s hs _ s.size p NN (by omega) (by omega) (Nat.le_of_lt hp)]
              have hT : skipA false (Lx s p) = skipA true (Lx s p) := by
                have h10 : (c.toNat == 10) = false := by
                  rw [beq_iff_eq] at h1'
                  rw [h1']; rfl
                rw [hc, skipA_f, hB, skipA_t, h10, h1', hc1]
                simp [slashed, h2']
              have htl := takeWhile_le nlU (Lx s p)
              rw [Lx_len] at htl
              have ht1 : 1 ≤ ((Lx s p).takeWhile nlU).length := by
                rw [hc, List.takeWhile_cons]
                have : nlU c = true := by
                  rw [beq_iff_eq] at h1'
                  unfold nlU; rw [h1']; rfl
                rw [this]; simp
              simp only [Bool.not_true, Bool.or_self, cond_false]
              rw [ih _ k (by omega) (by omega) (by omega), hT, skip_tw, List.drop_drop]
          · have := hno (by rw [Lx_nil (by omega)]; simp [slashed])
            rw [decide_eq_true (show ((p + 1 : Nat) : Int) ≥ (s.size : Int) by omega)]
            simp only [Bool.not_true, Bool.or_true, Bool.not_false, Bool.true_or, cond_true]
            rw [gd_pos rfl]
            exact this
    · rw [decide_eq_false (show ¬ (p : Int) < (s.size : Int) by omega), Lx_nil (by omega), show p = s.size by omega]
      simp [skipA]
theorem behind_f (s : ByteArray) (hs : s.size ≤ 40000) (p : Nat) (hp : p ≤ s.size) : Gr02_behind.f s (p : Int) = some ((s.size - (skipA false (Lx s p)).length : Nat) : Int) := by
  unfold Gr02_behind.f
  have := le_NN
  exact behind_l s hs s.size p NN (by omega) (by omega) hp
/-- What the document's functions answer of the token at p. -/
def RTok (p : Nat) (res : Option (D × Int × Int)) : Except Int (Tk × Nat) → Prop
  | .ok (t, n) => res = some (tkD t p, ((p + n : Nat) : Int), 0)
  | .error e => e ≠ 0 ∧ ∃ (d : D) (p' : Int), res = some (d, p', e)
theorem rTok_bind {p : Nat} {f : Option (D × Int × Int)} {t : Except Int (Tk × Nat)} (h : RTok p f t) : RTok p (f.bind fun r => some (r.1, r.2.1, r.2.2)) t := by
  cases t with
  | ok z =>
    obtain ⟨t, n⟩ := z
    have h : f = _ := h
    rw [h]; rfl
  | error e =>
    obtain ⟨h0, d, p', h1⟩ := h
    rw [h1]
    exact ⟨h0, d, p', rfl⟩
theorem rkeys : Gr02_Keys.f = some (keysU.map toD) := by kernel_rfl
theorem rsigns : Gr02_Signs.f = some (signsU.map toD) := by kernel_rfl
theorem has_l (ls : List (List UInt8)) (w : List UInt8) (hl : ls.length ≤ 1000) : ∀ (n i k : Nat), ls.length - i ≤ n → n < k → i ≤ ls.length → Gr02_has.l26 k (ls.map toD) ⟨w.toArray⟩ (i : Int) (fun _ => some false) = some ((ls.drop i).contains w) := by
  intro n
  induction n with
  | zero =>
    intro i k h1 h2 h3
    obtain ⟨k, rfl⟩ : ∃ k', k = k' + 1 := ⟨k - 1, by omega⟩
    simp only [Gr02_has.l26]
    rw [decide_eq_false (show ¬ (i : Int) < ((ls.map toD).length : Int) by rw [List.length_map]; omega), cond_false, List.drop_eq_nil_of_le (by omega)]
    rfl
  | succ n ih =>
    intro i k h1 h2 h3
    obtain ⟨k, rfl⟩ : ∃ k', k = k' + 1 := ⟨k - 1, by omega⟩
    simp only [Gr02_has.l26]
    by_cases hi : i < ls.length
    · have hr : (rd (ls.map toD) i).str = ⟨ls[i].toArray⟩ := by rw [rd_map (fun l => ⟨l.toArray⟩) ls i hi]; rfl
      rw [decide_eq_true (show (i : Int) < ((ls.map toD).length : Int) by rw [List.length_map]; omega), cond_true, gd_pos (inB_pos ⟨by omega, by rw [List.length_map]; omega⟩), toNat_nat, hr, toList_data, toList_data, List.drop_eq_getElem_cons hi, List.contains_cons]
      show (bif (ls[i].toArray.toList == w.toArray.toList) then some true else _) = _
      rw [List.toList_toArray, List.toList_toArray]
      have hcm : (ls[i] == w) = (w == ls[i]) := by rw [Bool.eq_iff_iff, beq_iff_eq, beq_iff_eq]; exact eq_comm
      rw [hcm]
      cases (w == ls[i]) with
      | true => rfl
      | false => rw [cond_false, Bool.false_or, w_succ _ (by omega)]; exact ih (i + 1) k (by omega) (by omega) (by omega)
    · rw [decide_eq_false (show ¬ (i : Int) < ((ls.map toD).length : Int) by rw [List.length_map]; omega), cond_false, List.drop_eq_nil_of_le (by omega)]
      rfl
theorem has_f (ls : List (List UInt8)) (w : List UInt8) (hl : ls.length ≤ 1000) : Gr02_has.f (ls.map toD) ⟨w.toArray⟩ = some (ls.contains w) := by
  unfold Gr02_has.f
  have := le_NN
  exact has_l ls w hl ls.length 0 NN (by omega) (by omega) (by omega)
/-! ### Names and keys -/
theorem word_l (s : ByteArray) (hs : s.size ≤ 40000) (q : Int) (v : D) (κ : (ByteArray × Int × D × Int) → Option (D × Int × Int)) : ∀ (n p k : Nat), s.size - p ≤ n → n < k → p ≤ s.size →
    Gr02_word.l28 k s q v (p : Int) κ = κ (s, q, v, ((p + ((Lx s p).takeWhile wdU).length : Nat) : Int)) := by
  intro n
  induction n with
  | zero =>
    intro p k h1 h2 h3
    obtain ⟨k, rfl⟩ : ∃ k', k = k' + 1 := ⟨k - 1, by omega⟩
    simp only [Gr02_word.l28]
    have hd : decide ((p : Int) < (s.size : Int)) = false := decide_eq_false (by omega)
    rw [hd, Lx_nil (by omega)]
    rfl
  | succ n ih =>
    intro p k h1 h2 h3
    obtain ⟨k, rfl⟩ : ∃ k', k = k' + 1 := ⟨k - 1, by omega⟩
    simp only [Gr02_word.l28]
    by_cases hp : p < s.size
    · obtain ⟨c, hc, hb⟩ := Lx_cons hp
      have hd : decide ((p : Int) < (s.size : Int)) = true := decide_eq_true (by omega)
      rw [hd, gd_pos (by rw [inB_pos ⟨by omega, by omega⟩]; rfl), toNat_nat, hb, cond_true, rpart_f, Option.bind_some, hc, List.takeWhile_cons, Bool.true_and]
      cases hg : wdU c with
      | true =>
        rw [cond_true, w_succ _ (by omega), ih (p + 1) k (by omega) (by omega) (by omega)]
        simp only [if_true, List.length_cons]
        rw [show p + 1 + ((Lx s (p + 1)).takeWhile wdU).length = p + (((Lx s (p + 1)).takeWhile wdU).length + 1) by omega]
      | false => simp
    · have hd : decide ((p : Int) < (s.size : Int)) = false := decide_eq_false (by omega)
      rw [hd, Lx_nil (by omega)]
      rfl
theorem rword_f (s : ByteArray) (hs : s.size ≤ 40000) (p : Nat) (hp : p ≤ s.size) : RTok p (Gr02_word.f s (p : Int))
    (if 24 < ((Lx s p).takeWhile wdU).length then .error 2 else .ok (⟨if keysU.contains ((Lx s p).takeWhile wdU) then 4 else 1, (Lx s p).takeWhile wdU, 0⟩, ((Lx s p).takeWhile wdU).length)) := by
  unfold Gr02_word.f
  have hN := le_NN
  rw [word_l s hs _ _ _ s.size p NN (by omega) (by omega) hp]
  have hl := takeWhile_le wdU (Lx s p)
  rw [Lx_len] at hl
  simp only
  rw [gd_pos (by rw [decide_eq_true (show (0 : Int) ≤ (p : Int) by omega), decide_eq_true (show (p : Int) ≤ ((p + ((Lx s p).takeWhile wdU).length : Nat) : Int) by omega), decide_eq_true (show ((p + ((Lx s p).takeWhile wdU).length : Nat) : Int) ≤ (s.size : Int) by omega)]; rfl)]
  rw [toNat_nat, toNat_nat, ext_eq, show p + ((Lx s p).takeWhile wdU).length - p = ((Lx s p).takeWhile wdU).length by omega]
  have : (Lx s p).take ((Lx s p).takeWhile wdU).length = (Lx s p).takeWhile wdU := (List.prefix_iff_eq_take.1 (List.takeWhile_prefix _)).symm
  rw [this, toD_size, show (24 : Int) = ((24 : Nat) : Int) from rfl, dgt]
  by_cases h : 24 < ((Lx s p).takeWhile wdU).length
  · rw [if_pos h, decide_eq_true h, cond_true]
    exact ⟨by decide, _, _, rfl⟩
  · rw [if_neg h, decide_eq_false h, cond_false, rkeys, Option.bind_some, has_f _ _ (by decide), Option.bind_some]
    cases keysU.contains ((Lx s p).takeWhile wdU) <;> rfl
/-! ### Numbers -/
theorem num_l (s : ByteArray) (hs : s.size ≤ 40000) (a : Int) (b most : Nat) (hb : 1 ≤ b ∧ b ≤ 16) (hm : most ≤ 4294967295) (g : UInt8 → Bool) (hg : ∀ c, g c = (hxU c && decide (dvU c < b))) (v10 : D) (κ : (Int × Int × D × Int × Int) → Option (D × Int × Int)) :
    ∀ (n p k v f : Nat), s.size - p ≤ n → n < k → p ≤ s.size → (v = f ∨ (most < v ∧ most < f ∧ v ≤ 100000000000)) → v ≤ 100000000000 →
    ∃ v' : Nat, Gr02_number.l28 k s a (b : Int) (most : Int) v10 (v : Int) (p : Int) κ = κ (a, (most : Int), v10, (v' : Int), ((p + ((Lx s p).takeWhile g).length : Nat) : Int)) ∧ (v' = ((Lx s p).takeWhile g).foldl (fun n c => n * b + dvU c) f ∨ (most < v' ∧ most < ((Lx s p).takeWhile g).foldl (fun n c => n * b + dvU c) f)) := by
  intro n
  induction n with
  | zero =>
    intro p k v f h1 h2 h3 h4 h5
    obtain ⟨k, rfl⟩ : ∃ k', k = k' + 1 := ⟨k - 1, by omega⟩
    simp only [Gr02_number.l28]
    rw [decide_eq_false (show ¬ (p : Int) < (s.size : Int) by omega), cond_false, Lx_nil (by omega)]
    exact ⟨v, rfl, h4.imp (fun h => h) fun h => ⟨h.1, h.2.1⟩⟩
  | succ n ih =>
    intro p k v f h1 h2 h3 h4 h5
    obtain ⟨k, rfl⟩ : ∃ k', k = k' + 1 := ⟨k - 1, by omega⟩
    simp only [Gr02_number.l28]
    by_cases hp : p < s.size
    · obtain ⟨c, hc, hbt⟩ := Lx_cons hp
      rw [decide_eq_true (show (p : Int) < (s.size : Int) by omega), cond_true, gd_pos (inB_pos ⟨by omega, by omega⟩), toNat_nat, hbt, nib_f, Option.bind_some, hc, List.takeWhile_cons, hg]
      cases hh : hxU c with
      | false =>
        rw [if_neg (by decide)]
        exact ⟨v, by simp, h4.imp (fun h => h) fun h => ⟨h.1, h.2.1⟩⟩
      | true =>
        have hd16 := dv_lt c hh
        simp only [if_true, Bool.true_and]
        rw [decide_eq_false (show ¬ (dvU c : Int) < 0 by omega), Bool.false_or]
        by_cases hd : dvU c < b
        · rw [decide_eq_false (show ¬ (dvU c : Int) ≥ (b : Int) by omega), cond_false, decide_eq_true hd]
          simp only [if_true, List.foldl_cons, List.length_cons]
          have e1 : p + 1 + ((Lx s (p + 1)).takeWhile g).length = p + (((Lx s (p + 1)).takeWhile g).length + 1) := by omega
          by_cases hv : v ≤ most
          · have hvf : v = f := h4.resolve_right (fun h => by omega)
            subst hvf
            have hvb : v * b ≤ 4294967295 * 16 := Nat.mul_le_mul (by omega) hb.2
            have e : (v : Int) * (b : Int) = ((v * b : Nat) : Int) := by simp
            rw [decide_eq_true (show (v : Int) ≤ (most : Int) by omega), cond_true, e, w64 ((v * b : Nat) : Int) (by omega), w_add _ _ (by omega), w_succ _ (by omega)]
            obtain ⟨v', q1, q2⟩ := ih (p + 1) k (v * b + dvU c) (v * b + dvU c) (by omega) (by omega) (by omega) (.inl rfl) (by omega)
            rw [e1] at q1
            exact ⟨v', q1, q2⟩
          · rw [decide_eq_false (show ¬ (v : Int) ≤ (most : Int) by omega), cond_false, w_succ _ (by omega)]
            have hf : most < f := by
              rcases h4 with h | h
              · omega
              · exact h.2.1
            have hfb : f * 1 ≤ f * b := Nat.mul_le_mul_left f hb.1
            obtain ⟨v', q1, q2⟩ := ih (p + 1) k v (f * b + dvU c) (by omega) (by omega) (by omega) (.inr ⟨by omega, by omega, h5⟩) h5
            rw [e1] at q1
            exact ⟨v', q1, q2⟩
        · rw [decide_eq_true (show (dvU c : Int) ≥ (b : Int) by omega), cond_true, decide_eq_false hd]
          exact ⟨v, by simp, h4.imp (fun h => h) fun h => ⟨h.1, h.2.1⟩⟩
    · rw [decide_eq_false (show ¬ (p : Int) < (s.size : Int) by omega), cond_false, Lx_nil (by omega)]
      exact ⟨v, rfl, h4.imp (fun h => h) fun h => ⟨h.1, h.2.1⟩⟩
theorem dg_hex (c : UInt8) : dgU c = (hxU c && decide (dvU c < 10)) := by
  cases hd : dgU c with
  | true => rw [dg_hx c hd, decide_eq_true (dv_digit c hd).1]; rfl
  | false =>
    cases hh : hxU c with
    | false => rfl
    | true =>
      have := dv_letter c hh hd
      rw [decide_eq_false (by omega)]; rfl
theorem hx_hex (c : UInt8) : hxU c = (hxU c && decide (dvU c < 16)) := by
  cases hh : hxU c with
  | false => rfl
  | true => rw [decide_eq_true (dv_lt c hh)]; rfl
theorem rnum_f (s : ByteArray) (hs : s.size ≤ 40000) (p q b most : Nat) (hq : q ≤ s.size) (hb : 1 ≤ b ∧ b ≤ 16) (hm : most ≤ 4294967295) (g : UInt8 → Bool) (hg : ∀ c, g c = (hxU c && decide (dvU c < b))) (off : Nat) (ho : q = p + off) :
    RTok p (Gr02_number.f s (p : Int) (q : Int) (b : Int) (most : Int)) (if most < numU b ((Lx s q).takeWhile g) then .error 22 else .ok (⟨2, [], wordU (numU b ((Lx s q).takeWhile g))⟩, ((Lx s q).takeWhile g).length + off)) := by
  unfold Gr02_number.f
  have hN := le_NN
  obtain ⟨v', h1, h2⟩ := num_l s hs (p : Int) b most hb hm g hg (.r [.i 0, .s ByteArray.empty, .i 0, .i 0]) (fun y2 => bif decide (y2.2.2.2.1 > y2.2.1) then some (.r [.i 0, .s ByteArray.empty, .i 0, .i 0], y2.1, 22) else bif decide (y2.2.2.2.1 ≥ 2147483648) then Gr02_number.p63 y2.1 y2.2.2.1 (IntKind.i64.wrap (y2.2.2.2.1 - 4294967296)) y2.2.2.2.2 else Gr02_number.p63 y2.1 y2.2.2.1 y2.2.2.2.1 y2.2.2.2.2) s.size q NN 0 0 (by omega) (by omega) hq (.inl rfl) (by omega)
  have h1 : Gr02_number.l28 NN s (p : Int) (b : Int) (most : Int) (.r [.i 0, .s ByteArray.empty, .i 0, .i 0]) 0 (q : Int) _ = _ := h1
  rw [h1]
  have h2 : v' = numU b ((Lx s q).takeWhile g) ∨ (most < v' ∧ most < numU b ((Lx s q).takeWhile g)) := h2
  generalize numU b ((Lx s q).takeWhile g) = f at h2
  generalize ((Lx s q).takeWhile g).length = len
  simp only
  by_cases hbig : most < f
  · have hv : most < v' := by omega
    rw [if_pos hbig, decide_eq_true (show (v' : Int) > (most : Int) by omega)]
    exact ⟨by decide, _, _, rfl⟩
  · have hv : v' = f := by omega
    subst hv
    rw [if_neg hbig, decide_eq_false (show ¬ (v' : Int) > (most : Int) by omega), cond_false]
    unfold wordU Gr02_number.p63
    by_cases hneg : 2147483648 ≤ v'
    · rw [if_pos hneg, decide_eq_true (show (v' : Int) ≥ 2147483648 by omega), cond_true, w64 _ (by omega), show q + len = p + (len + off) by omega]
      rfl
    · rw [if_neg hneg, decide_eq_false (show ¬ (v' : Int) ≥ 2147483648 by omega), cond_false, show q + len = p + (len + off) by omega]
      rfl
end Go.Pv

namespace Go.Pv
open Go.Lx
set_option maxRecDepth 20000
theorem rletter_f (s : ByteArray) (hs : s.size ≤ 40000) (p : Nat) (q : Nat) (hq : q ≠ 42) :
    (∃ x n, charL q (Lx s p) = some (x, n) ∧ Gr02_letter.f s (p : Int) (q : Int) = some ((x.toNat : Int), ((p + n : Nat) : Int), true)) ∨
    (charL q (Lx s p) = none ∧ ∃ (x p' : Int), Gr02_letter.f s (p : Int) (q : Int) = some (x, p', false)) := by
  unfold Gr02_letter.f
  by_cases hlt : p < s.size
  · obtain ⟨c, hc, hb⟩ := Lx_cons hlt
    rw [decide_eq_false (show ¬ (p : Int) ≥ (s.size : Int) by omega), cond_false, gd_pos (inB_pos ⟨by omega, by omega⟩), toNat_nat, hb, hc]
    have hne : ∀ k : Nat, ((c.toNat : Int) != ((k : Nat) : Int)) = !(c.toNat == k) := fun k => by rw [bne, beqI]
    rw [show (32 : Int) = ((32 : Nat) : Int) from rfl, show (126 : Int) = ((126 : Nat) : Int) from rfl, show (42 : Int) = ((42 : Nat) : Int) from rfl, dge, dle, hne, hne, w_succ _ (by omega)]
    unfold charL
    simp only
    by_cases h42 : c.toNat = 42
    · rw [if_neg (show ¬ (c.toNat < 32 ∨ 126 < c.toNat ∨ c.toNat = q) by omega), if_pos h42, h42]
      simp only [beq_self_eq_true, Bool.not_true, cond_false]
      by_cases hlt2 : p + 1 < s.size
      · obtain ⟨e, he, heb⟩ := Lx_cons hlt2
        rw [decide_eq_false (show ¬ ((p + 1 : Nat) : Int) ≥ (s.size : Int) by omega), cond_false, gd_pos (inB_pos ⟨by omega, by omega⟩), toNat_nat, heb, he]
        have hE : ∀ k : Nat, ((e.toNat : Int) == ((k : Nat) : Int)) = (e.toNat == k) := fun k => beqI _ k
        rw [show ((e.toNat : Int) == 110) = (e.toNat == 110) from hE 110, show ((e.toNat : Int) == 116) = (e.toNat == 116) from hE 116, show ((e.toNat : Int) == 115) = (e.toNat == 115) from hE 115, hE 42, show ((e.toNat : Int) == 39) = (e.toNat == 39) from hE 39, show ((e.toNat : Int) == 34) = (e.toNat == 34) from hE 34]
        have hw2 : IntKind.i64.wrap ((p : Int) + 2) = ((p + 2 : Nat) : Int) := by rw [w64 _ (by omega)]; simp
        have hP : ∀ (k : Nat) (b : Bool), (Gr02_letter.p64895 s (p : Int) b (fun y1 => Gr02_letter.p127 y1)) = bif b then some ((e.toNat : Int), ((p + 2 : Nat) : Int), true) else some (0, (p : Int), false) := fun k b => by
          unfold Gr02_letter.p64895 Gr02_letter.p127
          rw [w_succ _ (by omega), gd_pos (inB_pos ⟨by omega, by omega⟩), toNat_nat, heb, hw2]
        rw [hP 0, hP 0, hP 0, hw2]
        unfold escU
        dsimp only
        by_cases h110 : e.toNat = 110
        · rw [if_pos h110, show (e.toNat == 110) = true by rw [h110]; rfl]
          exact .inl ⟨10, 2, rfl, rfl⟩
        rw [if_neg h110, show (e.toNat == 110) = false from beq_eq_false_iff_ne.2 h110, cond_false]
        by_cases h116 : e.toNat = 116
        · rw [if_pos h116, show (e.toNat == 116) = true by rw [h116]; rfl]
          exact .inl ⟨9, 2, rfl, rfl⟩
        rw [if_neg h116, show (e.toNat == 116) = false from beq_eq_false_iff_ne.2 h116, cond_false]
        by_cases h115 : e.toNat = 115
        · rw [if_pos h115, show (e.toNat == 115) = true by rw [h115]; rfl]
          exact .inl ⟨32, 2, rfl, rfl⟩
        rw [if_neg h115, show (e.toNat == 115) = false from beq_eq_false_iff_ne.2 h115, cond_false]
        by_cases h42 : e.toNat = 42
        · rw [if_pos h42, show (e.toNat == 42) = true by rw [h42]; rfl, h42]
          exact .inl ⟨42, 2, rfl, rfl⟩
        rw [if_neg h42, show (e.toNat == 42) = false from beq_eq_false_iff_ne.2 h42, cond_false]
        by_cases h39 : e.toNat = 39
        · rw [if_pos h39, show (e.toNat == 39) = true by rw [h39]; rfl, h39]
          exact .inl ⟨39, 2, rfl, rfl⟩
        rw [if_neg h39, show (e.toNat == 39) = false from beq_eq_false_iff_ne.2 h39, cond_false]
        by_cases h34 : e.toNat = 34
        · rw [if_pos h34, show (e.toNat == 34) = true by rw [h34]; rfl, h34]
          exact .inl ⟨34, 2, rfl, rfl⟩
        rw [if_neg h34, show (e.toNat == 34) = false from beq_eq_false_iff_ne.2 h34, cond_false]
        exact .inr ⟨rfl, _, _, rfl⟩
      · rw [decide_eq_true (show ((p + 1 : Nat) : Int) ≥ (s.size : Int) by omega), cond_true, Lx_nil (by omega)]
        exact .inr ⟨rfl, _, _, rfl⟩
    · rw [show (c.toNat == 42) = false by rw [beq_eq_false_iff_ne]; exact h42]
      simp only [Bool.not_false, cond_true]
      by_cases hbad : c.toNat < 32 ∨ 126 < c.toNat ∨ c.toNat = q
      · rw [if_pos hbad]
        refine .inr ⟨rfl, (c.toNat : Int), ((p + 1 : Nat) : Int), ?_⟩
        have : (decide (32 ≤ c.toNat) && decide (c.toNat ≤ 126) && !(c.toNat == q)) = false := by
          rw [Bool.eq_false_iff]
          simp only [ne_eq, Bool.and_eq_true, decide_eq_true_eq, Bool.not_eq_true', beq_eq_false_iff_ne]; omega
        rw [this]
      · rw [if_neg hbad, if_neg h42]
        refine .inl ⟨c, 1, rfl, ?_⟩
        have : (decide (32 ≤ c.toNat) && decide (c.toNat ≤ 126) && !(c.toNat == q)) = true := by
          simp only [Bool.and_eq_true, decide_eq_true_eq, Bool.not_eq_true', beq_eq_false_iff_ne]; omega
        rw [this]
  · rw [decide_eq_true (show (p : Int) ≥ (s.size : Int) by omega), cond_true, Lx_nil (by omega)]
    exact .inr ⟨rfl, _, _, rfl⟩
theorem rchar_f (s : ByteArray) (hs : s.size ≤ 40000) (p : Nat) (hp : p < s.size) : RTok p (Gr02_char.f s (p : Int))
    (match charL 39 (Lx s (p + 1)) with
      | none => .error 21
      | some (x, n) => match (Lx s (p + 1)).drop n with
        | [] => .error 21
        | q :: _ => if q.toNat = 39 then .ok (⟨2, [], x.toNat⟩, n + 2) else .error 21) := by
  unfold Gr02_char.f
  rw [w_succ _ (by omega)]
  rcases rletter_f s hs (p + 1) 39 (by decide) with ⟨x, n, h1, h2⟩ | ⟨h1, x, p', h2⟩
  · rw [h1]
    have h2 : Gr02_letter.f s ((p + 1 : Nat) : Int) 39 = _ := h2
    rw [h2, Option.bind_some]
    simp only [Bool.not_true, Bool.false_or]
    rw [List.drop_drop]
    have hn := char_len h1
    rw [Lx_len] at hn
    by_cases hlt : p + 1 + n < s.size
    · obtain ⟨c, hc, hb⟩ := Lx_cons hlt
      have hc' : List.drop (p + 1 + n) s.data.toList = c :: Lx s (p + 1 + n + 1) := hc
      rw [hc', decide_eq_false (show ¬ ((p + 1 + n : Nat) : Int) ≥ (s.size : Int) by omega), gd_pos (by rw [inB_pos ⟨by omega, by omega⟩]; rfl), toNat_nat, hb]
      simp only [Bool.false_or]
      rw [bne, show (39 : Int) = ((39 : Nat) : Int) from rfl, beqI]
      by_cases hq : c.toNat = 39
      · rw [if_pos hq, show (c.toNat == 39) = true by rw [hq]; rfl]
        simp only [Bool.not_true, cond_false]
        rw [w64 (x.toNat : Int) (by have := x.toNat_lt; omega), w_succ _ (by omega)]
        rw [show p + 1 + n + 1 = p + (n + 2) by omega]
        rfl
      · rw [if_neg hq, show (c.toNat == 39) = false by rw [beq_eq_false_iff_ne]; exact hq]
        exact ⟨by decide, _, _, rfl⟩
    · have hc' : List.drop (p + 1 + n) s.data.toList = [] := Lx_nil (by omega)
      rw [hc', decide_eq_true (show ((p + 1 + n : Nat) : Int) ≥ (s.size : Int) by omega)]
      exact ⟨by decide, _, _, rfl⟩
  · rw [h1]
    have h2 : Gr02_letter.f s ((p + 1 : Nat) : Int) 39 = _ := h2
    rw [h2]
    exact ⟨by decide, _, _, rfl⟩
/-! ### Strings -/
theorem bstr_app (acc : List UInt8) (x : UInt8) : (⟨acc.toArray⟩ : ByteArray) ++ bstr ([D.i (x.toNat : Int)] : List D) = ⟨(acc ++ [x]).toArray⟩ := by
  rw [show ([D.i (x.toNat : Int)] : List D) = bD [x] from rfl, bstr_bD]
  refine bytes_eq ?_
  rw [app_data]
theorem bstr_one (x : UInt8) : (bstr ([D.i (x.toNat : Int)] : List D)).size = 1 := by
  rw [show ([D.i (x.toNat : Int)] : List D) = bD [x] from rfl, bstr_bD]; rfl
theorem rtext_l (s : ByteArray) (hs : s.size ≤ 40000) (v1 : Int) (v4 : D) (κ : (Int × D × ByteArray × Int) → Option (D × Int × Int)) : ∀ (n q k : Nat) (acc : List UInt8), s.size - q ≤ n → n < k → q ≤ s.size → acc.length ≤ q →
    (∀ xs j, textL (Lx s q) = some (xs, j) → Gr02_text.l60 k s v1 v4 ⟨acc.toArray⟩ (q : Int) κ = κ (v1, v4, ⟨(acc ++ xs).toArray⟩, ((q + j - 1 : Nat) : Int))) ∧
    (textL (Lx s q) = none → Gr02_text.l60 k s v1 v4 ⟨acc.toArray⟩ (q : Int) κ = some (.r [.i 0, .s ByteArray.empty, .i 0, .i 0], v1, 21)) := by
  intro n
  induction n with
  | zero =>
    intro q k acc h1 h2 h3 h4
    obtain ⟨k, rfl⟩ : ∃ k', k = k' + 1 := ⟨k - 1, by omega⟩
    rw [Lx_nil (by omega)]
    refine ⟨fun xs j h => by simp [textL] at h, fun _ => ?_⟩
    simp only [Gr02_text.l60]
    rw [decide_eq_true (show (q : Int) ≥ (s.size : Int) by omega)]
    rcases rletter_f s hs q 34 (by decide) with ⟨x, n, h1, _⟩ | ⟨_, x, p', h6⟩
    · rw [Lx_nil (by omega)] at h1; simp [charL] at h1
    · have h6 : Gr02_letter.f s (q : Int) 34 = _ := h6
      rw [h6]
      rfl
  | succ n ih =>
    intro q k acc h1 h2 h3 h4
    obtain ⟨k, rfl⟩ : ∃ k', k = k' + 1 := ⟨k - 1, by omega⟩
    by_cases hq : q < s.size
    · obtain ⟨c, hc, hb⟩ := Lx_cons hq
      rw [hc, text_eq]
      simp only [Gr02_text.l60]
      rw [decide_eq_false (show ¬ (q : Int) ≥ (s.size : Int) by omega), gd_pos (by rw [inB_pos ⟨by omega, by omega⟩]; rfl), toNat_nat, hb, bne, show ((c.toNat : Int) == 34) = (c.toNat == 34) from beqI c.toNat 34]
      by_cases h34 : c.toNat = 34
      · rw [if_pos h34, show (c.toNat == 34) = true by rw [h34]; rfl]
        refine ⟨fun xs j h => ?_, fun h => by cases h⟩
        obtain ⟨rfl, rfl⟩ := Prod.mk.inj (Option.some.inj h)
        simp
      · rw [if_neg h34, show (c.toNat == 34) = false by rw [beq_eq_false_iff_ne]; exact h34]
        simp only [Bool.not_false, Bool.or_true, cond_true]
        rcases rletter_f s hs q 34 (by decide) with ⟨x, n', e1, e2⟩ | ⟨e1, x, p', e2⟩
        · have e2 : Gr02_letter.f s (q : Int) 34 = _ := e2
          have hn := char_len e1
          rw [Lx_len] at hn
          rw [hc] at e1
          rw [e1, e2, Option.bind_some]
          simp only [Bool.not_true, cond_false]
          have hdr : List.drop n' (c :: Lx s (q + 1)) = Lx s (q + n') := by rw [← hc, List.drop_drop]
          rw [gd_pos (decide_eq_true (by rw [bstr_one, toD_size]; unfold maxS; omega)), bstr_app, hdr]
          obtain ⟨i1, i2⟩ := ih (q + n') k (acc ++ [x]) (by omega) (by omega) (by omega) (by simp; omega)
          cases ht : textL (Lx s (q + n')) with
          | none =>
            refine ⟨fun xs j h => by simp at h, fun _ => i2 ht⟩
          | some w =>
            obtain ⟨xs, j⟩ := w
            refine ⟨fun ys j' h => ?_, fun h => by simp at h⟩
            have h : some (x :: xs, j + n') = some (ys, j') := h
            obtain ⟨rfl, rfl⟩ := Prod.mk.inj (Option.some.inj h)
            rw [i1 xs j ht]
            have := text_len _ _ (Nat.le_refl _) _ _ ht
            rw [show q + n' + j - 1 = q + (j + n') - 1 by omega, List.append_assoc]
            rfl
        · have e2 : Gr02_letter.f s (q : Int) 34 = _ := e2
          rw [hc] at e1
          rw [e1, e2]
          exact ⟨fun xs j h => by simp at h, fun _ => rfl⟩
    · rw [Lx_nil (by omega)]
      refine ⟨fun xs j h => by simp [textL] at h, fun _ => ?_⟩
      simp only [Gr02_text.l60]
      rw [decide_eq_true (show (q : Int) ≥ (s.size : Int) by omega)]
      rcases rletter_f s hs q 34 (by decide) with ⟨x, n, h1, _⟩ | ⟨_, x, p', h6⟩
      · rw [Lx_nil (by omega)] at h1; simp [charL] at h1
      · have h6 : Gr02_letter.f s (q : Int) 34 = _ := h6
        rw [h6]
        rfl
theorem rtext_f (s : ByteArray) (hs : s.size ≤ 40000) (p : Nat) (hp : p < s.size) : RTok p (Gr02_text.f s (p : Int))
    (match textL (Lx s (p + 1)) with
      | none => .error 21
      | some (xs, n) => if 100 < xs.length then .error 2 else .ok (⟨3, xs, 0⟩, n + 1)) := by
  unfold Gr02_text.f
  rw [w_succ _ (by omega)]
  have hN := le_NN
  obtain ⟨i1, i2⟩ := rtext_l s hs (p : Int) (.r [.i 0, .s ByteArray.empty, .i 0, .i 0]) (fun y2 => bif decide ((y2.2.2.1.size : Int) > 100) then some (.r [.i 0, .s ByteArray.empty, .i 0, .i 0], y2.1, 2) else some (.r [.i 3, .s y2.2.2.1, .i 0, .i y2.1], (IntKind.i64.wrap (y2.2.2.2 + 1)), 0)) s.size (p + 1) NN [] (by omega) (by omega) (by omega) (by simp)
  cases ht : textL (Lx s (p + 1)) with
  | none =>
    have h := i2 ht
    exact ⟨by decide, _, _, h⟩
  | some w =>
    obtain ⟨xs, j⟩ := w
    have h := i1 xs j ht
    have hj := text_len _ _ (Nat.le_refl _) _ _ ht
    rw [Lx_len] at hj
    have h' : Gr02_text.l60 NN s (p : Int) (.r [.i 0, .s ByteArray.empty, .i 0, .i 0]) strNil ((p + 1 : Nat) : Int) _ = _ := h
    rw [h']
    show RTok p (bif decide (((⟨xs.toArray⟩ : ByteArray).size : Int) > 100) then some (D.r [.i 0, .s ByteArray.empty, .i 0, .i 0], (p : Int), 2) else some (D.r [.i 3, .s ⟨xs.toArray⟩, .i 0, .i (p : Int)], IntKind.i64.wrap (((p + 1 + j - 1 : Nat) : Int) + 1), 0)) _
    rw [toD_size, show (100 : Int) = ((100 : Nat) : Int) from rfl, dgt, w_succ _ (by omega)]
    dsimp only
    by_cases hl : 100 < xs.length
    · rw [if_pos hl, decide_eq_true hl]
      exact ⟨by decide, _, _, rfl⟩
    · rw [if_neg hl, decide_eq_false hl]
      rw [show p + 1 + j - 1 + 1 = p + (j + 1) by omega]
      rfl
/-! ### Signs -/
theorem prefix_take {g l : List UInt8} (h : g.isPrefixOf l = true) : g = l.take g.length := List.prefix_iff_eq_take.1 (List.isPrefixOf_iff_prefix.1 h)
theorem take_prefix (l : List UInt8) (n : Nat) : (l.take n).isPrefixOf l = true := List.isPrefixOf_iff_prefix.2 (List.take_prefix n l)
theorem sign_two (l : List UInt8) (h2 : 2 ≤ l.length) (h : signsU.contains (l.take 2) = true) : signL l = l.take 2 := by
  have hm := sign_max l _ (List.contains_iff_mem.1 h) (take_prefix l 2)
  rw [List.length_take] at hm
  rcases sign_ok l with h0 | ⟨a, b⟩
  · rw [h0] at hm; simp only [List.length_nil] at hm; omega
  · have := (signs_len _ a).2
    have hb := prefix_take b
    rw [show (signL l).length = 2 by omega] at hb
    exact hb
theorem sign_one (l : List UInt8) (h1 : 1 ≤ l.length) (h2 : ¬ (2 ≤ l.length ∧ signsU.contains (l.take 2) = true)) : signL l = if signsU.contains (l.take 1) then l.take 1 else [] := by
  rcases sign_ok l with h0 | ⟨a, b⟩
  · rw [h0]
    by_cases h : signsU.contains (l.take 1) = true
    · have hm := sign_max l _ (List.contains_iff_mem.1 h) (take_prefix l 1)
      rw [List.length_take, h0] at hm
      simp only [List.length_nil] at hm; omega
    · rw [if_neg h]
  · have hl := signs_len _ a
    have hb := prefix_take b
    have hn : (signL l).length = 1 := by
      apply Classical.byContradiction
      intro hne
      have h22 : (signL l).length = 2 := by omega
      rw [h22] at hb
      apply h2
      refine ⟨?_, ?_⟩
      · have : (l.take 2).length = 2 := by rw [← hb]; exact h22
        rw [List.length_take] at this; omega
      · rw [← hb]; exact List.contains_iff_mem.2 a
    rw [hn] at hb
    have : signsU.contains (l.take 1) = true := by rw [← hb]; exact List.contains_iff_mem.2 a
    rw [if_pos this]
    exact hb
theorem rsign_l (s : ByteArray) (hs : s.size ≤ 40000) (p n : Nat) (hp0 : p ≤ s.size) (hn : n ≤ 2) (hn0 : 1 ≤ n) (k : Nat) (v4 : D) (κ : (Int × D) → Option (D × Int × Int)) :
    Gr02_sign.l26 (k + 1) s (p : Int) v4 (n : Int) κ = if p + n ≤ s.size ∧ signsU.contains ((Lx s p).take n) = true then some (tkD ⟨5, (Lx s p).take n, 0⟩ p, ((p + n : Nat) : Int), 0) else Gr02_sign.l26 k s (p : Int) v4 ((n - 1 : Nat) : Int) κ := by
  simp only [Gr02_sign.l26]
  by_cases hp : p + n ≤ s.size
  · rw [decide_eq_true (show (n : Int) ≥ 1 by omega), cond_true, w_add _ _ (by omega), decide_eq_true (show ((p + n : Nat) : Int) ≤ (s.size : Int) by omega), cond_true, rsigns, Option.bind_some,
      decide_eq_true (show (0 : Int) ≤ (p : Int) by omega), decide_eq_true (show (p : Int) ≤ ((p + n : Nat) : Int) by omega), gd_pos (show (!true || true && (true && true)) = true from rfl), gd_pos (show (true && (true && true)) = true from rfl), cond_true, toNat_nat, toNat_nat, ext_eq, show p + n - p = n by omega, has_f _ _ (by decide), Option.bind_some, Bool.true_and]
    cases h : signsU.contains ((Lx s p).take n) with
    | true => rw [if_pos ⟨hp, rfl⟩]; rfl
    | false =>
      rw [if_neg (fun hh => by cases hh.2), cond_false, show (n : Int) - 1 = ((n - 1 : Nat) : Int) by omega, w64 _ (by omega)]
  · rw [if_neg (fun hh => hp hh.1), decide_eq_true (show (n : Int) ≥ 1 by omega), cond_true, w_add _ _ (by omega), decide_eq_false (show ¬ ((p + n : Nat) : Int) ≤ (s.size : Int) by omega), cond_false, Option.bind_some]
    rw [show (n : Int) - 1 = ((n - 1 : Nat) : Int) by omega, w64 ((n - 1 : Nat) : Int) (by omega)]
    rfl
theorem rsign_f (s : ByteArray) (hs : s.size ≤ 40000) (p : Nat) (hp : p < s.size) (g : List UInt8) (hg : signL (Lx s p) = g) : RTok p (Gr02_sign.f s (p : Int))
    (if g = [] then .error 20 else .ok (⟨5, g, 0⟩, g.length)) := by
  unfold Gr02_sign.f
  have hN := le_NN
  obtain ⟨K, hK⟩ : ∃ K, NN = K + 3 := ⟨NN - 3, by omega⟩
  rw [hK]
  have hlen := Lx_len s p
  have h2 := rsign_l s hs p 2 (by omega) (by omega) (by omega) (K + 2) (.r [.i 0, .s ByteArray.empty, .i 0, .i 0]) (fun y3 => some (.r [.i 0, .s ByteArray.empty, .i 0, .i 0], y3.1, 20))
  have h1 := rsign_l s hs p 1 (by omega) (by omega) (by omega) (K + 1) (.r [.i 0, .s ByteArray.empty, .i 0, .i 0]) (fun y3 => some (.r [.i 0, .s ByteArray.empty, .i 0, .i 0], y3.1, 20))
  have h2 : Gr02_sign.l26 (K + 3) s (p : Int) (.r [.i 0, .s ByteArray.empty, .i 0, .i 0]) 2 _ = _ := h2
  rw [h2]
  by_cases c2 : p + 2 ≤ s.size ∧ signsU.contains ((Lx s p).take 2) = true
  · rw [if_pos c2]
    have := sign_two (Lx s p) (by omega) c2.2
    rw [hg] at this
    have hl : g.length = 2 := by rw [this, List.length_take]; omega
    rw [← this, if_neg (fun h => by rw [h] at hl; simp at hl)]
    show some _ = some _
    rw [hl]
  · rw [if_neg c2]
    have := sign_one (Lx s p) (by omega) (fun h => c2 ⟨by omega, h.2⟩)
    rw [hg] at this
    have h1 : Gr02_sign.l26 (K + 2) s (p : Int) (.r [.i 0, .s ByteArray.empty, .i 0, .i 0]) ((2 - 1 : Nat) : Int) _ = _ := h1
    rw [h1]
    by_cases c1 : signsU.contains ((Lx s p).take 1) = true
    · rw [if_pos c1] at this
      rw [if_pos ⟨by omega, c1⟩]
      have hl : g.length = 1 := by rw [this, List.length_take]; omega
      rw [← this, if_neg (fun h => by rw [h] at hl; simp at hl)]
      show some _ = some _
      rw [hl]
    · rw [if_neg c1] at this
      rw [if_neg (fun h => c1 h.2), if_pos this]
      exact ⟨by decide, _, _, rfl⟩
/-! ### One token -/
theorem rnext_f (s : ByteArray) (hs : s.size ≤ 40000) (p : Nat) (hp : p < s.size) : RTok p (Gr02_next.f s (p : Int)) (tokL (Lx s p)) := by
  obtain ⟨c, hc, hb⟩ := Lx_cons hp
  have hpl := Nat.le_of_lt hp
  unfold Gr02_next.f
  rw [gd_pos (inB_pos ⟨by omega, by omega⟩), toNat_nat, hb, rsmall_f, Option.bind_some, rdigit_f, Option.bind_some]
  rw [show ((c.toNat : Int) == 35) = (c.toNat == 35) from beqI c.toNat 35, show ((c.toNat : Int) == 39) = (c.toNat == 39) from beqI c.toNat 39, show ((c.toNat : Int) == 34) = (c.toNat == 34) from beqI c.toNat 34]
  cases h1 : smU c with
  | true =>
    have := rword_f s hs p hpl
    rw [hc] at this ⊢
    rw [tokL_small h1]
    exact rTok_bind this
  | false =>
    rw [cond_false]
    cases h2 : dgU c with
    | true =>
      have := rnum_f s hs p p 10 2147483647 hpl (by omega) (by omega) dgU dg_hex 0 rfl
      rw [hc] at this ⊢
      rw [tokL_digit h1 h2]
      have e : (if 2147483647 < numU 10 ((c :: Lx s (p + 1)).takeWhile dgU) then (.error 22 : Except Int (Tk × Nat)) else .ok (⟨2, [], wordU (numU 10 ((c :: Lx s (p + 1)).takeWhile dgU))⟩, ((c :: Lx s (p + 1)).takeWhile dgU).length + 0)) = (if 2147483647 < numU 10 ((c :: Lx s (p + 1)).takeWhile dgU) then .error 22 else .ok (⟨2, [], numU 10 ((c :: Lx s (p + 1)).takeWhile dgU)⟩, ((c :: Lx s (p + 1)).takeWhile dgU).length)) := by
        by_cases hb : 2147483647 < numU 10 ((c :: Lx s (p + 1)).takeWhile dgU)
        · rw [if_pos hb, if_pos hb]
        · rw [if_neg hb, if_neg hb]
          have : wordU (numU 10 ((c :: Lx s (p + 1)).takeWhile dgU)) = (numU 10 ((c :: Lx s (p + 1)).takeWhile dgU) : Int) := if_neg (by omega)
          rw [this]; rfl
      rw [e] at this
      exact rTok_bind this
    | false =>
      rw [cond_false]
      by_cases h3 : c.toNat = 35
      · rw [hc, tokL_hex h1 h2 h3, show (c.toNat == 35) = true by rw [h3]; rfl, cond_true, w_succ _ (by omega)]
        by_cases hp1 : p + 1 < s.size
        · obtain ⟨c1, hc1, hb1⟩ := Lx_cons hp1
          rw [decide_eq_false (show ¬ ((p + 1 : Nat) : Int) ≥ (s.size : Int) by omega), gd_pos (by rw [inB_pos ⟨by omega, by omega⟩]; rfl), Bool.not_false, cond_true, toNat_nat, hb1, nib_f, Option.bind_some, Bool.false_or]
          cases hh : hxU c1 with
          | false =>
            have e0 : (Lx s (p + 1)).takeWhile hxU = [] := by rw [hc1, List.takeWhile_cons, hh]; rfl
            rw [e0, if_pos rfl, if_neg (by decide)]
            exact ⟨by decide, _, _, rfl⟩
          | true =>
            have e0 : (Lx s (p + 1)).takeWhile hxU ≠ [] := by rw [hc1, List.takeWhile_cons, hh]; simp
            rw [if_neg e0, if_pos rfl, decide_eq_false (show ¬ (dvU c1 : Int) < 0 by omega), cond_false]
            have := rnum_f s hs p (p + 1) 16 4294967295 (by omega) (by omega) (by omega) hxU hx_hex 1 rfl
            exact rTok_bind this
        · rw [Lx_nil (show s.size ≤ p + 1 by omega), decide_eq_true (show ((p + 1 : Nat) : Int) ≥ (s.size : Int) by omega)]
          exact ⟨by decide, _, _, rfl⟩
      · rw [show (c.toNat == 35) = false by rw [beq_eq_false_iff_ne]; exact h3, cond_false]
        by_cases h4 : c.toNat = 34
        · rw [hc, tokL_text h1 h2 h3 (by omega) h4, show (c.toNat == 34) = true by rw [h4]; rfl, cond_true]
          exact rTok_bind (rtext_f s hs p hp)
        · rw [show (c.toNat == 34) = false by rw [beq_eq_false_iff_ne]; exact h4, cond_false]
          by_cases h5 : c.toNat = 39
          · rw [hc, tokL_char h1 h2 h3 h5, show (c.toNat == 39) = true by rw [h5]; rfl, cond_true]
            exact rTok_bind (rchar_f s hs p hp)
          · rw [show (c.toNat == 39) = false by rw [beq_eq_false_iff_ne]; exact h5, cond_false]
            generalize hg : signL (Lx s p) = g
            have := rsign_f s hs p hp g hg
            rw [hc] at hg ⊢
            rw [tokL_sign h1 h2 h3 h5 h4 g hg]
            exact rTok_bind this
/-! ### All tokens -/
def rEnd (y6 : ByteArray × List D) : Option (List D × Int × Int) := bif decide ((y6.2.length : Int) ≥ 20000) then some ([], 2, (y6.1.size : Int)) else gd (Nat.ble (y6.2.length + ([.r [.i 0, .s ByteArray.empty, .i 0, .i (y6.1.size : Int)]] : List D).length) lim) (some ((y6.2 ++ ([.r [.i 0, .s ByteArray.empty, .i 0, .i (y6.1.size : Int)]] : List D)), 0, 0))
theorem rEnd_f (s : ByteArray) (acc : List D) (h : acc.length ≤ 20000) : rEnd (s, acc) = ansD acc ⟨[], none, s.size⟩ := by
  unfold rEnd ansD
  simp only [List.drop_nil, List.length_nil, Nat.add_zero, List.map_nil, List.append_nil]
  by_cases hl : acc.length = 20000
  · rw [if_pos hl, hl]; rfl
  · rw [if_neg hl, decide_eq_false (show ¬ (acc.length : Int) ≥ 20000 by omega), cond_false]
    show gd (Nat.ble (acc.length + 1) lim) _ = _
    rw [gd_pos (lim_pos (by omega))]
theorem rscan_l (s : ByteArray) (hs : s.size ≤ 40000) : ∀ (n p k : Nat) (acc : List D), s.size - p ≤ n → n < k → p ≤ s.size → acc.length ≤ 20000 →
    Gr02_Scan.l122 k s acc ((s.size - (skipA false (Lx s p)).length : Nat) : Int) rEnd = ansD acc (rawF k (Lx s p) s.size) := by
  intro n
  induction n with
  | zero =>
    intro p k acc h1 h2 h3 h4
    obtain ⟨k, rfl⟩ : ∃ k', k = k' + 1 := ⟨k - 1, by omega⟩
    simp only [Gr02_Scan.l122]
    rw [Lx_nil (by omega), raw_nil (by simp [skipA])]
    have hsk : skipA false [] = [] := by simp [skipA]
    simp only [hsk, List.length_nil, Nat.sub_zero]
    rw [decide_eq_false (show ¬ (s.size : Int) < (s.size : Int) by omega), cond_false]
    exact rEnd_f s acc h4
  | succ n ih =>
    intro p k acc h1 h2 h3 h4
    obtain ⟨k, rfl⟩ : ∃ k', k = k' + 1 := ⟨k - 1, by omega⟩
    simp only [Gr02_Scan.l122]
    have hsl := skip_len (Lx s p) false
    have hdr := skip_drop (Lx s p) false
    rw [Lx_len] at hsl hdr
    rw [List.drop_drop] at hdr
    cases hsk : skipA false (Lx s p) with
    | nil =>
      rw [raw_nil hsk]
      simp only [List.length_nil, Nat.sub_zero]
      rw [decide_eq_false (show ¬ (s.size : Int) < (s.size : Int) by omega), cond_false]
      exact rEnd_f s acc h4
    | cons c r =>
      rw [hsk] at hsl hdr
      rw [List.length_cons] at hsl hdr
      have hp1 : p + (s.size - p - (r.length + 1)) = s.size - (r.length + 1) := by omega
      rw [hp1] at hdr
      simp only [List.length_cons]
      rw [decide_eq_true (show ((s.size - (r.length + 1) : Nat) : Int) < (s.size : Int) by omega), cond_true]
      have htok := rnext_f s hs (s.size - (r.length + 1)) (by omega)
      have hLx : Lx s (s.size - (r.length + 1)) = c :: r := hdr.symm
      rw [hLx] at htok
      generalize hq : s.size - (r.length + 1) = q at htok hLx
      cases ht : tokL (c :: r) with
      | error e =>
        rw [ht] at htok
        obtain ⟨h0, d, p', e1⟩ := htok
        rw [e1, Option.bind_some, raw_err hsk ht, hq]
        simp only [Gr02_Scan.p3915]
        unfold ansD
        simp only [List.drop_nil]
        rw [show (e == 0) = false by rw [beq_eq_false_iff_ne]; exact h0, Bool.false_and, cond_false, show (e != 0) = true by rw [bne_iff_ne]; exact h0, cond_true]
      | ok w =>
        obtain ⟨t, j⟩ := w
        rw [ht] at htok
        have htok : Gr02_next.f s (q : Int) = some (tkD t q, ((q + j : Nat) : Int), 0) := htok
        rw [htok, Option.bind_some, raw_ok hsk ht, hq]
        simp only [Gr02_Scan.p3915]
        have hj := tok_len ht
        rw [List.length_cons] at hj
        by_cases hl : acc.length = 20000
        · unfold ansD
          rw [hl]
          rfl
        · rw [decide_eq_false (show ¬ (acc.length : Int) ≥ 20000 by omega), Bool.and_false, cond_false]
          show (bif (0 : Int) != 0 then _ else gd (Nat.ble (acc.length + 1) lim) _) = _
          rw [gd_pos (lim_pos (by omega))]
          have hql : q + j ≤ s.size := by omega
          rw [behind_f s hs (q + j) hql, Option.bind_some]
          show Gr02_Scan.l122 k s (acc ++ [tkD t q]) _ rEnd = _
          rw [ih (q + j) k (acc ++ [tkD t q]) (by omega) (by omega) (by omega) (by simp; omega)]
          have hd2 : List.drop j (c :: r) = Lx s (q + j) := by rw [← hLx, List.drop_drop]
          rw [hd2]
          unfold ansD
          simp only [List.length_append, List.length_cons, List.length_nil, List.map_cons, List.append_assoc, List.cons_append, List.nil_append]
          rw [show 20000 - acc.length = (20000 - (acc.length + 1)) + 1 by omega, List.drop_succ_cons, show acc.length + 1 + (rawF k (Lx s (q + j)) s.size).toks.length = acc.length + ((rawF k (Lx s (q + j)) s.size).toks.length + 1) by omega]
theorem ansD_scan (s : ByteArray) (hs : s.size ≤ 40000) : ansD [] (rawF NN (Lx s 0) s.size) = some (scanD s.data.toList) := by
  unfold scanD scanL
  rw [data_len, if_neg (by omega)]
  have hN := le_NN
  have hL : Lx s 0 = s.data.toList := rfl
  have hf := raw_fuel NN (k' := s.size + 1) (l := s.data.toList) (E := s.size) (by rw [data_len]; omega) (by rw [data_len]; omega)
  rw [hL, hf]
  have hr : rawL s.data.toList = rawF (s.size + 1) s.data.toList s.size := by unfold rawL; rw [data_len]
  rw [hr]
  unfold ansD limL
  simp only [List.length_nil, Nat.sub_zero, Nat.zero_add, List.nil_append]
  generalize rawF (s.size + 1) s.data.toList s.size = q
  cases q.toks.drop 20000 with
  | cons x r => rfl
  | nil =>
    simp only
    cases q.err with
    | some e => rfl
    | none =>
      simp only
      by_cases h : q.toks.length = 20000
      · rw [if_pos h, if_pos h]
      · rw [if_neg h, if_neg h]
        dsimp only
        rw [List.map_append]
        rfl
theorem rscan_f (s : ByteArray) : Gr02_Scan.f s = some (scanD s.data.toList) := by
  unfold Gr02_Scan.f
  by_cases h : 40000 < s.size
  · rw [decide_eq_true (show (s.size : Int) > 40000 by omega), cond_true]
    unfold scanD scanL
    rw [data_len, if_pos h]
    rfl
  · have hN := le_NN
    have hb := behind_f s (by omega) 0 (by omega)
    have hb : Gr02_behind.f s 0 = _ := hb
    rw [decide_eq_false (show ¬ (s.size : Int) > 40000 by omega), cond_false, hb, Option.bind_some, ← ansD_scan s (by omega)]
    exact rscan_l s (by omega) s.size 0 NN [] (by omega) (by omega) (by omega) (by simp)
theorem scanD_len (l : List UInt8) : (scanD l).1.length ≤ 20000 := by
  unfold scanD
  cases h : scanL l with
  | error e => simp
  | ok t =>
    have := scan_ok h
    rw [this.2.2.2]
    simp only [List.length_map, List.length_append, List.length_cons, List.length_nil]
    omega
theorem law_scans (s : ByteArray) : Gw02_LexScans.f s = some true := by
  unfold Gw02_LexScans.f
  have := scanD_len s.data.toList
  rw [scan_f, Option.bind_some, rscan_f, Option.bind_some, eqTok_f _ (by omega), Option.bind_some]
  simp only [beq_self_eq_true, Bool.and_true, cond_true]
  rw [awake_f]
  rfl
end Go.Pv

namespace Go.Pv
open Go.Lx
set_option maxRecDepth 20000
/-- How many line feeds stand ahead of a place. -/
def lfN (s : ByteArray) (i : Nat) : Nat := (s.data.toList.take i).count 10
theorem lfN_le (s : ByteArray) (i : Nat) : lfN s i ≤ i := Nat.le_trans List.count_le_length (by rw [List.length_take]; omega)
theorem at_bt (s : ByteArray) (i : Nat) (h : i < s.size) : ((s.data[i]!).toNat : Int) = bt s i := by
  unfold bt
  have h' : i < s.data.size := h
  rw [getElem!_pos s.data i h', List.getD, List.getElem?_eq_getElem (by simpa using h')]
  simp
theorem lfN_succ (s : ByteArray) (i : Nat) (h : i < s.size) : lfN s (i + 1) = lfN s i + (if bt s i = 10 then 1 else 0) := by
  unfold lfN
  obtain ⟨c, hc, hb⟩ := Lx_cons h
  have hi : i < s.data.toList.length := by rw [data_len]; exact h
  have hg : s.data.toList[i] = c := by
    have := List.drop_eq_getElem_cons hi
    have hc' : List.drop i s.data.toList = c :: List.drop (i + 1) s.data.toList := hc
    rw [hc'] at this
    exact (List.cons.inj this).1.symm
  rw [List.take_succ_eq_append_getElem hi, List.count_append, hg, hb]
  by_cases h10 : c.toNat = 10
  · have : c = 10 := UInt8.toNat_inj.1 h10
    rw [this]; rfl
  · have hne : c ≠ 10 := fun h => h10 (by rw [h]; rfl)
    rw [if_neg (by omega), List.count_cons_of_ne (by simpa using hne)]
    rfl
theorem last_bounds (s : ByteArray) (c : Int) (k : Nat) : -1 ≤ Lib.lastIdx s c k ∧ Lib.lastIdx s c k < k := by
  rcases Lib.lastIdx_spec s c k with ⟨h, -⟩ | ⟨i, h1, h2, -, -⟩ <;> omega
theorem last_ext (s : ByteArray) (c : Int) (a : Nat) (ha : a ≤ s.size) : ∀ k, k ≤ a → Lib.lastIdx (s.extract 0 a) c k = Lib.lastIdx s c k
  | 0, _ => rfl
  | k + 1, h => by
    unfold Lib.lastIdx
    have e : ((s.extract 0 a).data[k]!).toNat = (s.data[k]!).toNat := by
      have h1 := at_bt (s.extract 0 a) k (by rw [ext_size _ _ _ ha]; omega)
      have h2 := at_bt s k (by omega)
      have h3 : bt (s.extract 0 a) k = bt s k := by
        unfold bt
        rw [ext0_data, List.getD, List.getD, List.getElem?_take, if_pos (by omega)]
      omega
    rw [e, last_ext s c a ha k (by omega)]
theorem line_lp (s : ByteArray) (hs : s.size ≤ 140737488355328) (a : Nat) (ha : a ≤ s.size) (κ : (Int × Int) → Option (Int × Int × Int)) : ∀ (n i k : Nat), a - i ≤ n → n < k → i ≤ a →
    Gr02_Line.l122 k s (a : Int) (((lfN s i + 1 : Nat) : Int)) ((i : Int) - Lib.lastIdx s 10 i - 1) (i : Int) κ = κ (((lfN s a + 1 : Nat) : Int), (a : Int) - Lib.lastIdx s 10 a - 1) := by
  intro n
  induction n with
  | zero =>
    intro i k h1 h2 h3
    obtain ⟨k, rfl⟩ : ∃ k', k = k' + 1 := ⟨k - 1, by omega⟩
    simp only [Gr02_Line.l122]
    rw [decide_eq_false (show ¬ (i : Int) < (a : Int) by omega), cond_false, show i = a by omega]
  | succ n ih =>
    intro i k h1 h2 h3
    obtain ⟨k, rfl⟩ : ∃ k', k = k' + 1 := ⟨k - 1, by omega⟩
    simp only [Gr02_Line.l122]
    by_cases hi : i < a
    · have hb := last_bounds s 10 i
      have hl := lfN_le s i
      have hsu := lfN_succ s i (by omega)
      have hat := at_bt s i (by omega)
      have hla : Lib.lastIdx s 10 (i + 1) = if bt s i = 10 then (i : Int) else Lib.lastIdx s 10 i := by
        conv => lhs; unfold Lib.lastIdx
        rw [hat]
      rw [decide_eq_true (show (i : Int) < (a : Int) by omega), cond_true, gd_pos (inB_pos ⟨by omega, by omega⟩), toNat_nat, w_succ i (by omega)]
      have := ih (i + 1) k (by omega) (by omega) (by omega)
      by_cases h10 : bt s i = 10
      · rw [if_pos h10] at hsu hla
        rw [hsu, hla] at this
        rw [h10, show ((10 : Int) == 10) = true from rfl, cond_true, w_succ (lfN s i + 1) (by omega)]
        rw [show (((i + 1 : Nat) : Int) - (i : Int) - 1) = 0 by omega] at this
        exact this
      · rw [if_neg h10] at hsu hla
        rw [hsu, hla] at this
        rw [show (bt s i == 10) = false by rw [beq_eq_false_iff_ne]; exact h10, cond_false, w64 _ (by omega)]
        rw [show (i : Int) - Lib.lastIdx s 10 i - 1 + 1 = ((i + 1 : Nat) : Int) - Lib.lastIdx s 10 i - 1 by omega]
        exact this
    · rw [decide_eq_false (show ¬ (i : Int) < (a : Int) by omega), cond_false, show i = a by omega]
theorem law_lines (s : ByteArray) (hs : s.size ≤ 140737488355328) (a : Int) : Gw02_LexLines.f s a = some true := by
  unfold Gw02_LexLines.f Glex_Line.f Gr02_Line.f
  by_cases hr : a < 0 ∨ a > (s.size : Int)
  · have : (decide (a < 0) || decide (a > (s.size : Int))) = true := by
      simpa using hr
    rw [this]
    simp only [cond_true, Option.bind_some]
    rw [awake_f]
    rfl
  · have : (decide (a < 0) || decide (a > (s.size : Int))) = false := by
      rw [Bool.eq_false_iff]
      simpa using hr
    rw [this]
    obtain ⟨i, rfl⟩ : ∃ i : Nat, a = (i : Int) := ⟨a.toNat, by omega⟩
    have hi : i ≤ s.size := by omega
    have hN := le_NN
    have hb := last_bounds s 10 i
    have hl := lfN_le s i
    have h := line_lp s hs i hi (fun y1 => some (y1.1, y1.2, 0)) i 0 NN (by omega) (by omega) (by omega)
    have h' : Gr02_Line.l122 NN s (i : Int) 1 0 0 _ = _ := h
    rw [h']
    simp only [cond_false]
    rw [gd_pos (by rw [decide_eq_true (show (0 : Int) ≤ (i : Int) by omega), decide_eq_true (show (i : Int) ≤ (s.size : Int) by omega)]; rfl), toNat_nat]
    have hc : Gstrings_Count.f (s.extract 0 i) str0a = some ((lfN s i : Nat) : Int) := by
      unfold Gstrings_Count.f
      rw [show str0a.data.toList = [10] from rfl]
      simp only
      unfold Lib.countByte lfN
      rw [ext0_data]
    have hla : Gstrings_LastIndexByte.f (s.extract 0 i) 10 = some (Lib.lastIdx s 10 i) := by
      unfold Gstrings_LastIndexByte.f
      rw [show Nat.blt (s.extract 0 i).size 4611686018427387904 = true from Nat.ble_eq_true_of_le (by rw [ext_size _ _ _ hi]; omega), cond_true]
      unfold Lib.lastIndexByte
      rw [show (s.extract 0 i).size = i by rw [ext_size _ _ _ hi]; omega, last_ext s 10 i hi i (Nat.le_refl _)]
    rw [hc, Option.bind_some, hla, Option.bind_some, w_succ _ (by omega), w64 ((i : Int) - Lib.lastIdx s 10 i) (by omega), w64 _ (by omega)]
    simp only [Option.bind_some, beq_self_eq_true, Bool.and_true, cond_true]
    rw [awake_f]
    rfl
end Go.Pv
