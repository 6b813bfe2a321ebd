/- A contract of the library or of a function, by hand. -/
import Derived.Test.YtgileklccaliiaaDoorPOcHBdS
set_option linter.unusedVariables false
set_option linter.unusedSimpArgs false
set_option maxRecDepth 100000
namespace Go.Pv
open Go.Proofs Go.RowKit Go.Proofs.YtgileklccaliiaaDoor.Lx
theorem u8C1 : csz Tryd.prog 5 = 1 := by kernel_rfl
theorem u8C2 : isA Tryd.prog 5 = false := by kernel_rfl
theorem u8C3 : cks Tryd.prog 5 = [.int .u8] := by kernel_rfl
theorem u8C4 : okT Tryd.prog 5 = true := by kernel_rfl
theorem u8C5 : flatE Tryd.prog 5 = true := by kernel_rfl
theorem u8U : Tryd.prog.underlying 5 = some (.int .u8) := Tryd.underlying5
/-- A builder that is handed in. -/
theorem open_bd {A : Nat → Prop} {w : World} {η : Nat → Value} {l : List D} {v : Value} (hv : RelV Tryd.prog ⟨A, w.heap.size, η⟩ (mkOb [(1, .bd 43 (.own 2 1)), (2, .row 5 l 1)]) w (.ref 1 0) v)
    (ho : ∀ n, RelO Tryd.prog ⟨A, w.heap.size, η⟩ (mkOb [(1, .bd 43 (.own 2 1)), (2, .row 5 l 1)]) w n (mkOb [(1, .bd 43 (.own 2 1)), (2, .row 5 l 1)] n))
    (hinj : ∀ n m b, blk (η n) = some b → blk (η m) = some b → n = m) :
    ∃ b pv cl, v = .pointer (some ⟨b, 0, none⟩) ∧ η 1 = .pointer (some ⟨b, 0, none⟩) ∧ BdAt w b pv (η 2) cl ∧ cl.length = l.length ∧ Elems Tryd.prog w (⟨A, w.heap.size, η⟩ : Gh).ok 5 (fun k => cl[k]?) l := by
  have h1 := ho 1
  have h2 := ho 2
  obtain ⟨b, pv, val, e1, hb, hp, hval⟩ : ∃ b pv val, η 1 = .pointer (some ⟨b, 0, none⟩) ∧ w.heap[b]? = some (.cells #[pv, val] 43 (0, 0)) ∧ (pv = .pointer none ∨ pv = .pointer (some ⟨b, 0, none⟩)) ∧ RelV Tryd.prog ⟨A, w.heap.size, η⟩ (mkOb [(1, .bd 43 (.own 2 1)), (2, .row 5 l 1)]) w (.own 2 1) val := h1
  obtain ⟨hT, cl, hown, hE⟩ : okT Tryd.prog 5 = true ∧ ∃ cl : List Value, w.ownsT (od 1) 0 5 (csz Tryd.prog 5) (η 2) l.length cl ∧ Elems Tryd.prog w (⟨A, w.heap.size, η⟩ : Gh).ok 5 (fun k => cl[k]?) l := h2
  have hq : val = η 2 := by
    simp only [RelV] at hval
    exact hval.2.2 rfl
  subst hq
  have hl : cl.length = l.length := by rw [hown.1, u8C1, Nat.mul_one]
  refine ⟨b, pv, cl, ?_, e1, ⟨hb, hp, by rw [hl]; rw [u8C1] at hown; exact hown, fun h => ?_⟩, hl, hE⟩
  · simp only [RelV] at hv
    obtain ⟨-, b', k1, k2⟩ : _ ∧ ∃ b', η 1 = .pointer (some ⟨b', 0, none⟩) ∧ v = .pointer (some ⟨b', 0, none⟩) := hv
    rw [e1] at k1
    have : b = b' := by simpa using k1
    subst this
    exact k2
  · have := hinj 1 2 b (by rw [e1]; rfl) h
    omega
/-- What is known of a builder behind a call. -/
theorem close_bd {p : Nat} {B W : Nat → Prop} {w w' : World} {b : Nat} {pv v : Value} {cl : List Value} {l : List D} (h : BdAt w' b pv v cl) (hl : cl.length = l.length) {ok : Nat → Prop} {w2 : World} (hE : Elems Tryd.prog w2 ok 5 (fun k => cl[k]?) l) (hWb : w.heap.size ≤ b ∨ W b) (hWv : ∀ k, blk v = some k → w.heap.size ≤ k ∨ W k)
    (η : Nat → Value) (e1 : η p = .pointer (some ⟨b, 0, none⟩)) (e2 : η (p + 1) = v) (e3 : ∀ n, n ≠ p → n ≠ p + 1 → η n = undef) :
    (∀ n, RelO Tryd.prog ⟨B, w'.heap.size, η⟩ (mkOb [(p, .bd 43 (.own (p + 1) 1)), (p + 1, .row 5 l 1)]) w' n (mkOb [(p, .bd 43 (.own (p + 1) 1)), (p + 1, .row 5 l 1)] n)) ∧
    RelV Tryd.prog ⟨B, w'.heap.size, η⟩ (mkOb [(p, .bd 43 (.own (p + 1) 1)), (p + 1, .row 5 l 1)]) w' (.ref p 0) (.pointer (some ⟨b, 0, none⟩)) ∧
    (∀ n m b, blk (η n) = some b → blk (η m) = some b → n = m) ∧ (∀ n b, blk (η n) = some b → (w.heap.size ≤ b ∨ W b) ∧ b < w'.heap.size) := by
  have o1 : mkOb [(p, .bd 43 (.own (p + 1) 1)), (p + 1, .row 5 l 1)] p = .bd 43 (.own (p + 1) 1) := by simp [mkOb]
  have o2 : mkOb [(p, .bd 43 (.own (p + 1) 1)), (p + 1, .row 5 l 1)] (p + 1) = .row 5 l 1 := by
    have : Nat.beq (p + 1) p = false := beq_false (by omega)
    simp [mkOb, this]
  have o3 : ∀ n, n ≠ p → n ≠ p + 1 → mkOb [(p, .bd 43 (.own (p + 1) 1)), (p + 1, .row 5 l 1)] n = .none := fun n h1 h2 => by simp [mkOb, beq_false h1, beq_false h2]
  have hone : v.oneCell' = true := by rcases h.own.2 with ⟨h, _⟩ | ⟨_, _, _, _, h, _⟩ <;> rw [h] <;> rfl
  have hin : ∀ n b', blk (η n) = some b' → (n = p ∧ b' = b) ∨ (n = p + 1 ∧ blk v = some b') := fun n b' hb => by
    by_cases h1 : n = p
    · subst h1; rw [e1] at hb; left; exact ⟨rfl, by simpa [blk] using hb.symm⟩
    · by_cases h2 : n = p + 1
      · subst h2; rw [e2] at hb; exact .inr ⟨rfl, hb⟩
      · rw [e3 n h1 h2] at hb; simp [undef, blk] at hb
  refine ⟨fun n => ?_, ?_, fun n m b' h1 h2 => ?_, fun n b' hb => ?_⟩
  · by_cases h1 : n = p
    · subst h1
      rw [o1]
      refine ⟨b, pv, v, e1, h.heap, h.ptr, ?_⟩
      simp only [RelV]
      rw [o2]
      exact ⟨hone, Nat.le_refl _, fun _ => e2.symm⟩
    · by_cases h2 : n = p + 1
      · subst h2
        rw [o2]
        refine ⟨u8C4, cl, ?_, flat_elems u8C4 u8C5 hE w'⟩
        show w'.ownsT _ 0 _ _ (η (p + 1)) _ _
        rw [e2, u8C1, ← hl]; exact h.own
      · rw [o3 n h1 h2]; simp only [RelO]
  · simp only [RelV]
    rw [o1]
    exact ⟨rfl, b, e1, rfl⟩
  · rcases hin n b' h1 with ⟨a1, a2⟩ | ⟨a1, a2⟩ <;> rcases hin m b' h2 with ⟨c1, c2⟩ | ⟨c1, c2⟩
    · omega
    · exact absurd c2 (by rw [a2]; exact h.ne)
    · exact absurd a2 (by rw [c2]; exact h.ne)
    · omega
  · rcases hin n b' hb with ⟨-, a2⟩ | ⟨-, a2⟩
    · rw [a2]; exact ⟨hWb, h.lt⟩
    · exact ⟨hWv b' a2, owns_blk h.own a2⟩

def ηbd (p b : Nat) (v : Value) : Nat → Value := fun n => if n = p then .pointer (some ⟨b, 0, none⟩) else if n = p + 1 then v else undef
theorem ηbd1 {p b : Nat} {v : Value} : ηbd p b v p = .pointer (some ⟨b, 0, none⟩) := by simp [ηbd]
theorem ηbd2 {p b : Nat} {v : Value} : ηbd p b v (p + 1) = v := by simp [ηbd]
theorem ηbd3 {p b : Nat} {v : Value} (n : Nat) (h1 : n ≠ p) (h2 : n ≠ p + 1) : ηbd p b v n = undef := by simp [ηbd, h1, h2]

/-- WriteString. -/
def GBuilder_WriteString.f (l : List D) (s : ByteArray) : Option (Int × Nat × List D) := bif Nat.ble (l.length + s.size) 140737488355328 then some ((s.size : Int), 0, l ++ ubytes s) else none
def GBuilder_WriteString.pk : List FK := [.bd 43 (.own 5), .str]
def GBuilder_WriteString.rk : List FK := [.int .i64, .err, .bd 43 (.own 5)]
def GBuilder_WriteString.g : Tp GBuilder_WriteString.pk → Option (Tp GBuilder_WriteString.rk) := fun x => GBuilder_WriteString.f x.1 x.2
theorem ubytes_elems {w : World} {ok : Nat → Prop} (s : ByteArray) : Elems Tryd.prog w ok 5 (fun k => (Lib.strCells s)[k]?) (ubytes s) := (str_src (w := w) (G := ⟨ok, 0, fun _ => undef⟩) u8C4 u8U s).2 |> fun h => flat_elems u8C4 u8C5 h w
theorem bw_sub {W W' : Nat → Prop} {w w' : World} (h : BelowW W w w') (hs : ∀ k, W k → W' k) : BelowW W' w w' := ⟨h.os, h.tape, h.output, h.size, fun k hk hW => h.block k hk fun h => hW (hs k h)⟩
theorem GBuilder_WriteString.spec : SpecIO Tryd.prog 13 GBuilder_WriteString.pk [0] GBuilder_WriteString.rk GBuilder_WriteString.g := by
  intro x y hg A W w η vals hL hgs hv ho hinj hnew
  obtain ⟨l, s⟩ := x
  obtain ⟨p, q, rfl, hp, hq⟩ := vals2 hv
  obtain ⟨b, pv, cl, rfl, e1, hbd, hl, hE⟩ := open_bd hp ho hinj
  have hq' : q = .string s := hq
  subst hq'
  obtain ⟨hb, hy⟩ := cond_some (show GBuilder_WriteString.f l s = some y from hg)
  obtain rfl := Option.some.inj hy
  have hb := Nat.le_of_ble_eq_true hb
  refine (WriteString_bd s hbd (by rw [hl]; exact hb)).mono fun e w' he => ?_
  obtain ⟨rfl, v', hbd', hbel, hv'⟩ := he
  have hWb : W b := (hnew 1 b (by rw [e1]; rfl)).1
  have hW2 : ∀ k, blk (η 2) = some k → W k := fun k hk => (hnew 2 k hk).1
  have hE' : Elems Tryd.prog w (⟨A, w.heap.size, η⟩ : Gh).ok 5 (fun k => (cl ++ Lib.strCells s)[k]?) (l ++ ubytes s) := elems_append (by rw [hl, u8C1, Nat.mul_one]) hE (ubytes_elems s)
  obtain ⟨r1, r2, r3, r4⟩ := close_bd (p := 3) (B := fun b => A b ∨ w.heap.size ≤ b) (W := W) (w := w) hbd' (by simp [hl, ubytes, Lib.strCells]) hE' (.inr hWb) (fun k hk => (hv' k hk).1.symm.imp id (hW2 k)) (ηbd 3 b v') ηbd1 ηbd2 ηbd3
  refine ⟨[.int .i64 s.size, .nilIface], ηbd 3 b v', rfl, bw_sub hbel fun k hk => hk.elim (fun h => by rw [h]; exact hWb) (hW2 k), ?_, r1, r3, r4⟩
  show RelVs _ _ _ _ [V.i .i64 _, V.er 0, V.ref 3 0] _
  simp only [List.map_cons, List.map_nil, List.cons_append, List.nil_append, RelVs]
  refine ⟨by simp only [RelV], ⟨?_, ?_, trivial⟩⟩
  · simp only [RelV]; exact ⟨fun _ => trivial, fun h => by omega, fun h => by omega⟩
  · exact r2

/-- What is a byte. -/
def isByte : D → Bool | .i n => decide (0 ≤ n) && decide (n < 256) | _ => false
theorem byte_cells {w : World} {ok : Nat → Prop} : ∀ {l : List D} {cl : List Value}, cl.length = l.length → Elems Tryd.prog w ok 5 (fun k => cl[k]?) l → l.all isByte = true → cl = Lib.byteCells (l.map fun d => UInt8.ofNat d.int.toNat)
  | [], [], _, _, _ => rfl
  | [], _ :: _, h, _, _ => by simp at h
  | _ :: _, [], h, _, _ => by simp at h
  | d :: l, c :: cl, hl, hE, hb => by
    simp only [List.all_cons, Bool.and_eq_true] at hb
    have h0 := (hE 0 (by simp)).2 0 (by rw [u8C1]; omega)
    rw [u8C1, u8C2, u8C3] at h0
    obtain ⟨v, hv, hr⟩ := h0
    have hv : c = v := by simpa using hv
    subst hv
    have hr : RepC Tryd.prog w ok (.int .u8) c d := hr
    have hd : ∃ n : Int, d = .i n ∧ 0 ≤ n ∧ n < 256 := by
      have := hb.1
      unfold isByte at this
      cases d with
      | i n =>
        simp only [Bool.and_eq_true, decide_eq_true_eq] at this
        exact ⟨n, rfl, this⟩
      | _ => cases this
    obtain ⟨n, rfl, hn0, hn1⟩ := hd
    have hc : c = .int .u8 n := by cases hr; rfl
    have ih := byte_cells (l := l) (cl := cl) (w := w) (ok := ok) (by simpa using hl) (fun i hi => by
      obtain ⟨q1, q2⟩ := hE (i + 1) (by simpa using hi)
      refine ⟨q1, fun j hj => ?_⟩
      obtain ⟨v, hv, r⟩ := q2 j hj
      refine ⟨v, ?_, r⟩
      rw [u8C1] at hj hv ⊢
      obtain rfl : j = 0 := by omega
      simpa using hv) hb.2
    rw [hc, ih]
    simp only [Lib.byteCells, List.map_cons, D.int]
    congr 2
    rw [UInt8.toNat_ofNat', Nat.mod_eq_of_lt (by omega)]
    omega
/-- String. -/
def GBuilder_String.f (l : List D) : Option (ByteArray × Unit) := bif l.all isByte then some (bstr l, ()) else none
def GBuilder_String.pk : List FK := [.bd 43 (.own 5)]
def GBuilder_String.rk : List FK := [.str, .bd 43 .zz]
def GBuilder_String.g : Tp GBuilder_String.pk → Option (Tp GBuilder_String.rk) := fun x => GBuilder_String.f x
theorem GBuilder_String.spec : SpecIO Tryd.prog 19 GBuilder_String.pk [0] GBuilder_String.rk GBuilder_String.g := by
  intro l y hg A W w η vals hL hgs hv ho hinj hnew
  obtain ⟨p, rfl, hp⟩ := vals1 hv
  obtain ⟨b, pv, cl, rfl, e1, hbd, hl, hE⟩ := open_bd hp ho hinj
  obtain ⟨hb, hy⟩ := cond_some (show GBuilder_String.f l = some y from hg)
  obtain rfl := Option.some.inj hy
  obtain rfl := byte_cells hl hE hb
  refine (String_bd hbd).mono fun e w' he => ?_
  obtain ⟨rfl, hbel⟩ := he
  have hWb : W b := (hnew 1 b (by rw [e1]; rfl)).1
  have hW2 : ∀ k, blk (η 2) = some k → W k := fun k hk => (hnew 2 k hk).1
  have hb' : w'.heap[b]? = some (.cells #[pv, η 2] 43 (0, 0)) := (hbel.block b hbd.lt hbd.ne).trans hbd.heap
  have o1 : mkOb (obR Tryd.prog 1 GBuilder_String.rk (bstr l, ())) 2 = .bd 43 .z := rfl
  have o3 : ∀ n, n ≠ 2 → mkOb (obR Tryd.prog 1 GBuilder_String.rk (bstr l, ())) n = .none := fun n h => by
    show mkOb [(2, .bd 43 .z)] n = .none
    simp [mkOb, beq_false h]
  let η' : Nat → Value := fun n => if n = 2 then .pointer (some ⟨b, 0, none⟩) else undef
  have hη : η' 2 = .pointer (some ⟨b, 0, none⟩) := if_pos rfl
  have hη' : ∀ n, n ≠ 2 → η' n = undef := fun n h => if_neg h
  have hin : ∀ n b', blk (η' n) = some b' → n = 2 ∧ b' = b := fun n b' h => by
    by_cases hn : n = 2
    · subst hn; rw [hη] at h; exact ⟨rfl, by simpa [blk] using h.symm⟩
    · rw [hη' n hn] at h; simp [undef, blk] at h
  refine ⟨[.string _], η', rfl, bw_sub hbel hW2, ?_, fun n => ?_, fun n m b' h1 h2 => ?_, fun n b' h => ?_⟩
  · show RelVs _ _ _ _ [V.s (bstr l), V.ref 2 0] _
    simp only [List.map_cons, List.map_nil, List.cons_append, List.nil_append, RelVs, RelV]
    rw [o1]
    exact ⟨by simp only [bstr], ⟨rfl, b, hη, rfl⟩, trivial⟩
  · by_cases hn : n = 2
    · subst hn
      rw [o1]
      exact ⟨b, pv, η 2, hη, hb', hbd.ptr, by simp only [RelV]⟩
    · rw [o3 n hn]; simp only [RelO]
  · rw [(hin n b' h1).1, (hin m b' h2).1]
  · obtain ⟨-, rfl⟩ := hin n b' h
    exact ⟨.inr hWb, Nat.lt_of_lt_of_le hbd.lt hbel.size⟩
end Go.Pv
