/- A contract of the library or of a function, by hand. -/
import Derived.Test.YtajlhhejblpfcaaDoorPPpHBufW
set_option linter.unusedVariables false
set_option linter.unusedSimpArgs false
set_option maxRecDepth 100000
namespace Go.Pv
open Go.Proofs Go.RowKit Go.Proofs.YtajlhhejblpfcaaDoor.Lx
theorem vals3 {P : Program} {G : Gh} {ob : Nat → O} {w : World} {x y q : V} {vals : List Value} (h : RelVs P G ob w [x, y, q] vals) : ∃ a b c, vals = [a, b, c] ∧ RelV P G ob w x a ∧ RelV P G ob w y b ∧ RelV P G ob w q c := by
  match vals, h with
  | v :: vs, h =>
    simp only [RelVs] at h
    obtain ⟨b, c, rfl, h2, h3⟩ := vals2 h.2
    exact ⟨v, b, c, rfl, h.1, h2, h3⟩
  | [], h => simp only [RelVs] at h
/-- The kind of a buffer that is handed over. -/
abbrev bfK : FK := .bx (.cn (.own 5) (.cn (.int .i64) (.cn (.int .i8) .ce)))
abbrev bfOb (p : Nat) (l : List D) (off lr : Int) : Nat → O := mkOb [(p, .box (.agg [.own (p + 2) 1, .i .i64 off, .i .i8 lr])), (p + 2, .row 5 l 1)]
/-- A buffer that is handed in. -/
theorem open_bf {A : Nat → Prop} {w : World} {η : Nat → Value} {l : List D} {lr : Int} {v : Value} (hv : RelV Tryd.prog ⟨A, w.heap.size, η⟩ (bfOb 1 l 0 lr) w (.ref 1 0) v)
    (ho : ∀ n, RelO Tryd.prog ⟨A, w.heap.size, η⟩ (bfOb 1 l 0 lr) w n (bfOb 1 l 0 lr n)) (hinj : ∀ n m b, blk (η n) = some b → blk (η m) = some b → n = m) :
    ∃ b T cl, v = .pointer (some ⟨b, 0, none⟩) ∧ η 1 = .pointer (some ⟨b, 0, none⟩) ∧ BfAt T w b (η 3) lr cl ∧ cl.length = l.length ∧ Elems Tryd.prog w (⟨A, w.heap.size, η⟩ : Gh).ok 5 (fun k => cl[k]?) l ∧ ∀ v ∈ cl, v.oneCell' = true := by
  have h1 := ho 1
  have h3 := ho 3
  obtain ⟨b, T, val, e1, hb, hval⟩ : ∃ (b : Nat) (T : TypeId) (val : Value), η 1 = .pointer (some ⟨b, 0, none⟩) ∧ w.heap[b]? = some (.cells val.cells T (0, 0)) ∧ RelV Tryd.prog ⟨A, w.heap.size, η⟩ (bfOb 1 l 0 lr) w (.agg [.own 3 1, .i .i64 0, .i .i8 lr]) val := h1
  obtain ⟨hT, cl, hown, hE⟩ : okT Tryd.prog 5 = true ∧ ∃ cl : List Value, w.ownsT (od 1) 0 5 (csz Tryd.prog 5) (η 3) l.length cl ∧ Elems Tryd.prog w (⟨A, w.heap.size, η⟩ : Gh).ok 5 (fun k => cl[k]?) l := h3
  have hl : cl.length = l.length := by rw [hown.1, u8C1, Nat.mul_one]
  simp only [RelV] at hval
  obtain ⟨cs, rfl, -, hvs⟩ := hval
  have hcs : cs = #[η 3, .int .i64 0, .int .i8 lr] := by
    obtain ⟨x, y, z, hcl, hx, hy, hz⟩ := vals3 hvs
    simp only [RelV] at hx hy hz
    obtain ⟨-, -, hx⟩ := hx
    rw [show cs = cs.toList.toArray from rfl, hcl, hx rfl, hy, hz]
  subst hcs
  refine ⟨b, T, cl, ?_, e1, ⟨hb, ?_, fun h => ?_⟩, hl, hE, fun v hv => ?_⟩
  · simp only [RelV] at hv
    obtain ⟨-, b', k1, k2⟩ : _ ∧ ∃ b', η 1 = .pointer (some ⟨b', 0, none⟩) ∧ v = .pointer (some ⟨b', 0, none⟩) := hv
    rw [e1] at k1
    have : b = b' := by simpa using k1
    subst this
    exact k2
  · rw [u8C1] at hown
    rw [hl]
    refine ⟨hown.1, ?_⟩
    rcases hown.2 with h | ⟨g, cap, cur, fz, q1, q2, q3, q4, q5⟩
    · exact .inl h
    · have : fz = (0, 0) := by
        rcases q4 with h | ⟨h, _⟩
        · exact h
        · exact absurd h (by decide)
      subst this
      exact .inr ⟨g, cap, cur, q1, q2, q3, q5⟩
  · have := hinj 1 3 b (by rw [e1]; rfl) h
    omega
  · obtain ⟨k, hk, hkv⟩ := List.getElem_of_mem hv
    have := (hE k (by omega)).2 0 (by rw [u8C1]; omega)
    rw [u8C1] at this
    obtain ⟨u, hu, r⟩ := this
    have hu : cl[k]? = some u := by simpa using hu
    rw [List.getElem?_eq_getElem hk, hkv] at hu
    obtain rfl : v = u := by simpa using hu
    exact r.one
def ηbf (p b : Nat) (v : Value) : Nat → Value := fun n => if n = p then .pointer (some ⟨b, 0, none⟩) else if n = p + 2 then v else undef
theorem ηbf1 {p b : Nat} {v : Value} : ηbf p b v p = .pointer (some ⟨b, 0, none⟩) := by simp [ηbf]
theorem ηbf2 {p b : Nat} {v : Value} : ηbf p b v (p + 2) = v := by simp [ηbf]
theorem ηbf3 {p b : Nat} {v : Value} (n : Nat) (h1 : n ≠ p) (h2 : n ≠ p + 2) : ηbf p b v n = undef := by simp [ηbf, h1, h2]
theorem bf_lt {T : TypeId} {w : World} {b : Nat} {v : Value} {lr : Int} {cl : List Value} (h : BfAt T w b v lr cl) {k : Nat} (hk : blk v = some k) : k < w.heap.size := owns_blk (st := true) (World.ownsT_of h.own) hk
/-- What is known of a buffer behind a call. -/
theorem close_bf {p : Nat} {T : TypeId} {B W : Nat → Prop} {w w' : World} {b : Nat} {lr : Int} {v : Value} {cl : List Value} {l : List D} (h : BfAt T w' b v lr cl) (hl : cl.length = l.length) {ok : Nat → Prop} {w2 : World} (hE : Elems Tryd.prog w2 ok 5 (fun k => cl[k]?) l) (hWb : w.heap.size ≤ b ∨ W b) (hWv : ∀ k, blk v = some k → w.heap.size ≤ k ∨ W k) :
    (∀ n, RelO Tryd.prog ⟨B, w'.heap.size, ηbf p b v⟩ (bfOb p l 0 lr) w' n (bfOb p l 0 lr n)) ∧
    RelV Tryd.prog ⟨B, w'.heap.size, ηbf p b v⟩ (bfOb p l 0 lr) w' (.ref p 0) (.pointer (some ⟨b, 0, none⟩)) ∧
    (∀ n m b', blk (ηbf p b v n) = some b' → blk (ηbf p b v m) = some b' → n = m) ∧ (∀ n b', blk (ηbf p b v n) = some b' → (w.heap.size ≤ b' ∨ W b') ∧ b' < w'.heap.size) := by
  have o1 : bfOb p l 0 lr p = .box (.agg [.own (p + 2) 1, .i .i64 0, .i .i8 lr]) := by simp [mkOb]
  have o2 : bfOb p l 0 lr (p + 2) = .row 5 l 1 := by
    have : Nat.beq (p + 2) p = false := beq_false (by omega)
    simp [mkOb, this]
  have o3 : ∀ n, n ≠ p → n ≠ p + 2 → bfOb p l 0 lr n = .none := fun n h1 h2 => by simp [mkOb, beq_false h1, beq_false h2]
  have hone : v.oneCell' = true := by rcases h.own.2 with ⟨h, _⟩ | ⟨_, _, _, h, _⟩ <;> rw [h] <;> rfl
  have hin : ∀ n b', blk (ηbf p b v n) = some b' → (n = p ∧ b' = b) ∨ (n = p + 2 ∧ blk v = some b') := fun n b' hb => by
    by_cases h1 : n = p
    · subst h1; rw [ηbf1] at hb; left; exact ⟨rfl, by simpa [blk] using hb.symm⟩
    · by_cases h2 : n = p + 2
      · subst h2; rw [ηbf2] at hb; exact .inr ⟨rfl, hb⟩
      · rw [ηbf3 n h1 h2] at hb; simp [undef, blk] at hb
  refine ⟨fun n => ?_, ?_, fun n m b' h1 h2 => ?_, fun n b' hb => ?_⟩
  · by_cases h1 : n = p
    · subst h1
      rw [o1]
      refine ⟨b, T, .agg #[v, .int .i64 0, .int .i8 lr], ηbf1, h.heap, ?_⟩
      simp only [RelV]
      refine ⟨_, rfl, fun u hu => ?_, ?_⟩
      · simp at hu
        rcases hu with rfl | rfl | rfl
        · exact hone
        · rfl
        · rfl
      · simp only [RelVs, RelV]
        rw [o2]
        exact ⟨⟨hone, Nat.le_refl _, fun _ => ηbf2.symm⟩, trivial, trivial, trivial⟩
    · by_cases h2 : n = p + 2
      · subst h2
        rw [o2]
        refine ⟨u8C4, cl, ?_, flat_elems u8C4 u8C5 hE w'⟩
        show w'.ownsT _ 0 _ _ (ηbf p b v (p + 2)) _ _
        rw [ηbf2, u8C1, ← hl]; exact World.ownsT_of h.own
      · rw [o3 n h1 h2]; simp only [RelO]
  · simp only [RelV]
    rw [o1]
    exact ⟨rfl, b, ηbf1, rfl⟩
  · rcases hin n b' h1 with ⟨a1, a2⟩ | ⟨a1, a2⟩ <;> rcases hin m b' h2 with ⟨c1, c2⟩ | ⟨c1, c2⟩
    · omega
    · exact absurd c2 (by rw [a2]; exact h.ne)
    · exact absurd a2 (by rw [c2]; exact h.ne)
    · omega
  · rcases hin n b' hb with ⟨-, a2⟩ | ⟨-, a2⟩
    · rw [a2]; exact ⟨hWb, h.lt⟩
    · exact ⟨hWv b' a2, bf_lt h a2⟩

/-- WriteString. -/
def GBuffer_WriteString.f (x : List D × Int × Int × Unit) (s : ByteArray) : Option (Int × Nat × List D × Int × Int × Unit) := bif x.2.1 == 0 then bif Nat.blt 0 s.size then bif Nat.ble (x.1.length + s.size) 140737488355328 then some ((s.size : Int), 0, x.1 ++ ubytes s, 0, 0, ()) else none else none else none
def GBuffer_WriteString.pk : List FK := [bfK, .str]
def GBuffer_WriteString.rk : List FK := [.int .i64, .err, bfK]
def GBuffer_WriteString.g : Tp GBuffer_WriteString.pk → Option (Tp GBuffer_WriteString.rk) := fun x => GBuffer_WriteString.f x.1 x.2
theorem GBuffer_WriteString.spec : SpecIO Tryd.prog 26 GBuffer_WriteString.pk [0] GBuffer_WriteString.rk GBuffer_WriteString.g := by
  intro x y hg A W w η vals hL hgs hv ho hinj hnew
  obtain ⟨⟨l, off, lr, u⟩, s⟩ := x
  obtain ⟨p, q, rfl, hp, hq⟩ := vals2 hv
  obtain ⟨h0, hy⟩ := cond_some (show GBuffer_WriteString.f (l, off, lr, u) s = some y from hg)
  obtain rfl : off = 0 := by simpa using h0
  obtain ⟨h1, hy⟩ := cond_some hy
  have h1 : 1 ≤ s.size := Nat.le_of_ble_eq_true h1
  obtain ⟨hb, hy⟩ := cond_some hy
  obtain rfl := Option.some.inj hy
  have hb := Nat.le_of_ble_eq_true hb
  obtain ⟨b, T, cl, rfl, e1, hbf, hl, hE, hone⟩ := open_bf hp ho hinj
  have hq' : q = .string s := hq
  subst hq'
  refine (WriteString_bf b s (η 3) lr cl w hbf hone h1 (by rw [hl]; exact hb)).mono fun e w' he => ?_
  obtain ⟨rfl, v', hbf', hv', hbel⟩ := he
  have hWb : W b := (hnew 1 b (by rw [e1]; rfl)).1
  have hW2 : ∀ k, blk (η 3) = some k → W k := fun k hk => (hnew 3 k hk).1
  have hE' : Elems Tryd.prog w (⟨A, w.heap.size, η⟩ : Gh).ok 5 (fun k => (cl ++ Lib.byteCells s.data.toList)[k]?) (l ++ ubytes s) := elems_append (by rw [hl, u8C1, Nat.mul_one]) hE (ubytes_elems s)
  obtain ⟨r1, r2, r3, r4⟩ := close_bf (p := 3) (B := fun b => A b ∨ w.heap.size ≤ b) (W := W) (w := w) hbf' (by simp [hl, ubytes, Lib.byteCells]) hE' (.inr hWb) (fun k hk => (hv' k hk).symm.imp id (hW2 k))
  refine ⟨[.int .i64 s.size, .nilIface], ηbf 3 b v', rfl, bw_sub hbel fun k hk => hk.elim (fun h => by rw [h]; exact hWb) (hW2 k), ?_, r1, r3, r4⟩
  show RelVs _ _ _ _ [V.i .i64 _, V.er 0, V.ref 3 0] _
  simp only [List.map_cons, List.map_nil, List.cons_append, List.nil_append, RelVs]
  refine ⟨by simp only [RelV], ⟨?_, ?_, trivial⟩⟩
  · simp only [RelV]; exact ⟨fun _ => trivial, fun h => by omega, fun h => by omega⟩
  · exact r2
/-- Write. -/
def GBuffer_Write.f (x : List D × Int × Int × Unit) (s : List D) : Option (Int × Nat × List D × Int × Int × Unit) := bif x.2.1 == 0 then bif Nat.ble (x.1.length + s.length) 140737488355328 then some ((s.length : Int), 0, x.1 ++ s, 0, 0, ()) else none else none
def GBuffer_Write.pk : List FK := [bfK, .sl 5]
def GBuffer_Write.rk : List FK := [.int .i64, .err, bfK]
def GBuffer_Write.g : Tp GBuffer_Write.pk → Option (Tp GBuffer_Write.rk) := fun x => GBuffer_Write.f x.1 x.2
theorem GBuffer_Write.spec : SpecIO Tryd.prog 30 GBuffer_Write.pk [0] GBuffer_Write.rk GBuffer_Write.g := by
  intro x y hg A W w η vals hL hgs hv ho hinj hnew
  obtain ⟨⟨l, off, lr, u⟩, s⟩ := x
  obtain ⟨p, q, rfl, hp, hq⟩ := vals2 hv
  obtain ⟨h0, hy⟩ := cond_some (show GBuffer_Write.f (l, off, lr, u) s = some y from hg)
  obtain rfl : off = 0 := by simpa using h0
  obtain ⟨hb, hy⟩ := cond_some hy
  obtain rfl := Option.some.inj hy
  have hb := Nat.le_of_ble_eq_true hb
  obtain ⟨b, T, cl, rfl, e1, hbf, hl, hE, hone⟩ := open_bf hp ho hinj
  have hq : RepC Tryd.prog w (⟨A, w.heap.size, η⟩ : Gh).ok (.sl 5) q (.l s) := by
    have : RelV Tryd.prog ⟨A, w.heap.size, η⟩ _ w (.sl 5 s) q := hq
    simpa only [RelV] using this
  have hWb : W b := (hnew 1 b (by rw [e1]; rfl)).1
  have hW2 : ∀ k, blk (η 3) = some k → W k := fun k hk => (hnew 3 k hk).1
  have fin : ∀ (e : Ending) (w' : World) (ns : List Value) (_ : e = .returned (.tuple #[.int .i64 s.length, .nilIface])) (_ : Wrt T w w' b (blk (η 3)) 0 (cl ++ ns)) (_ : ns.length = s.length) (_ : Elems Tryd.prog w (⟨A, w.heap.size, η⟩ : Gh).ok 5 (fun k => ns[k]?) s),
      BackW Tryd.prog A W w GBuffer_Write.rk ((s.length : Int), 0, l ++ s, 0, 0, ()) [.pointer (some ⟨b, 0, none⟩)] e w' := by
    rintro e w' ns rfl ⟨v', hbf', hv', hbel⟩ hns hE2
    have hE' : Elems Tryd.prog w (⟨A, w.heap.size, η⟩ : Gh).ok 5 (fun k => (cl ++ ns)[k]?) (l ++ s) := elems_append (by rw [hl, u8C1, Nat.mul_one]) hE hE2
    obtain ⟨r1, r2, r3, r4⟩ := close_bf (p := 3) (B := fun b => A b ∨ w.heap.size ≤ b) (W := W) (w := w) hbf' (by simp [hl, hns]) hE' (.inr hWb) (fun k hk => (hv' k hk).symm.imp id (hW2 k))
    refine ⟨[.int .i64 s.length, .nilIface], ηbf 3 b v', rfl, bw_sub hbel fun k hk => hk.elim (fun h => by rw [h]; exact hWb) (hW2 k), ?_, r1, r3, r4⟩
    show RelVs _ _ _ _ [V.i .i64 _, V.er 0, V.ref 3 0] _
    simp only [List.cons_append, List.nil_append, RelVs]
    refine ⟨by simp only [RelV], ⟨?_, ?_, trivial⟩⟩
    · simp only [RelV]; exact ⟨fun _ => trivial, fun h => by omega, fun h => by omega⟩
    · exact r2
  have zero : ∀ ao c, q = .slice ao 0 c → s = [] → Calls Tryd.prog 30 #[.pointer (some ⟨b, 0, none⟩), q] w (BackW Tryd.prog A W w GBuffer_Write.rk ((s.length : Int), 0, l ++ s, 0, 0, ()) [.pointer (some ⟨b, 0, none⟩)]) := by
    rintro ao c rfl rfl
    refine (Write_bf0 b ao c (η 3) lr cl w hbf).mono fun e w' he => ?_
    exact fin e w' [] he.1 (by rw [List.append_nil]; exact he.2) rfl fun i hi => by simp at hi
  rcases hq.of_sl with ⟨hq1, hs⟩ | ⟨a, cap, hq1, hs, -⟩ | ⟨g, off, cap, xs, cs, el, fz, hq1, hs, hok, hg0, -, -, hE2⟩
  · exact zero none 0 hq1 (by simpa using hs)
  · exact zero (some a) cap hq1 (by simpa using hs)
  · obtain rfl : s = xs := by simpa using hs
    by_cases hs0 : s = []
    · exact zero (some ⟨g, off, none⟩) cap (by rw [hq1, hs0]; rfl) hs0
    · have hpos : 1 ≤ s.length := List.length_pos_iff.2 hs0
      subst hq1
      have hget : ∀ i, i < s.length → ∃ v, cs[off + i]? = some v ∧ v.oneCell' = true := fun i hi => by
        obtain ⟨v, hv, r⟩ := (hE2 i hi).2 0 (by rw [u8C1]; omega)
        rw [u8C1] at hv
        exact ⟨v, by simpa using hv, r.one⟩
      have hsz : off + s.length ≤ cs.size := by
        obtain ⟨v, hv, -⟩ := hget (s.length - 1) (by omega)
        have := (Array.getElem?_eq_some_iff.1 hv).1
        omega
      have hnl : ((cs.toList.drop off).take s.length).length = s.length := by
        have : cs.toList.length = cs.size := Array.length_toList
        rw [List.length_take, List.length_drop]; omega
      have hng : ∀ k, k < s.length → ((cs.toList.drop off).take s.length)[k]? = cs[off + k]? := fun k hk => by
        rw [List.getElem?_take_of_lt hk, List.getElem?_drop, Array.getElem?_toList]
      have hcell : ∀ k, w.cell? ((⟨g, off, none⟩ : Addr).add k) = cs[off + k]? := fun k => (by
        have := Lib.cell_of_heap hg0 (off + k)
        by_cases h0 : k = 0
        · subst h0; simpa [Addr.add] using this
        · simpa [Addr.add, h0] using this)
      refine (Write_bf b ((cs.toList.drop off).take s.length) ⟨g, off, none⟩ s.length cap (η 3) lr cl w hbf hone hnl hpos (fun e => hok.2.2 1 (by show blk (η 1) = some g; rw [e1]; exact congrArg some e.symm)) (fun j v hj => ?_) (fun v hv => ?_) (by rw [hl]; exact hb)).mono fun e w' he => ?_
      · have hj' : j < s.length := by rw [← hnl]; exact (List.getElem?_eq_some_iff.1 hj).1
        rw [hcell, ← hng j hj', hj]
      · obtain ⟨k, hk, hkv⟩ := List.getElem_of_mem hv
        have hk' : k < s.length := by rw [← hnl]; exact hk
        obtain ⟨u, hu, ho1⟩ := hget k hk'
        rw [← hng k hk', List.getElem?_eq_getElem hk, hkv] at hu
        obtain rfl : v = u := by simpa using hu
        exact ho1
      · refine fin e w' _ he.1 he.2 hnl fun i hi => ⟨(hE2 i hi).1, fun j hj => ?_⟩
        obtain ⟨v, hv, r⟩ := (hE2 i hi).2 j hj
        refine ⟨v, ?_, r⟩
        rw [u8C1] at hj hv ⊢
        obtain rfl : j = 0 := by omega
        simp only [Nat.mul_one, Nat.add_zero] at hv ⊢
        rw [hng i hi]; exact hv
/-- WriteByte. -/
def GBuffer_WriteByte.f (x : List D × Int × Int × Unit) (c : Int) : Option (Nat × List D × Int × Int × Unit) := bif x.2.1 == 0 then bif Nat.ble (x.1.length + 1) 140737488355328 then some (0, x.1 ++ [.i c], 0, 0, ()) else none else none
def GBuffer_WriteByte.pk : List FK := [bfK, .int .u8]
def GBuffer_WriteByte.rk : List FK := [.err, bfK]
def GBuffer_WriteByte.g : Tp GBuffer_WriteByte.pk → Option (Tp GBuffer_WriteByte.rk) := fun x => GBuffer_WriteByte.f x.1 x.2
theorem GBuffer_WriteByte.spec : SpecIO Tryd.prog 31 GBuffer_WriteByte.pk [0] GBuffer_WriteByte.rk GBuffer_WriteByte.g := by
  intro x y hg A W w η vals hL hgs hv ho hinj hnew
  obtain ⟨⟨l, off, lr, u⟩, c⟩ := x
  obtain ⟨p, q, rfl, hp, hq⟩ := vals2 hv
  obtain ⟨h0, hy⟩ := cond_some (show GBuffer_WriteByte.f (l, off, lr, u) c = some y from hg)
  obtain rfl : off = 0 := by simpa using h0
  obtain ⟨hb, hy⟩ := cond_some hy
  obtain rfl := Option.some.inj hy
  have hb := Nat.le_of_ble_eq_true hb
  obtain ⟨b, T, cl, rfl, e1, hbf, hl, hE, hone⟩ := open_bf hp ho hinj
  have hq' : q = .int .u8 c := hq
  subst hq'
  refine (WriteByte_bf b c (η 3) lr cl w hbf hone (by rw [hl]; exact hb)).mono fun e w' he => ?_
  obtain ⟨rfl, v', hbf', hv', hbel⟩ := he
  have hWb : W b := (hnew 1 b (by rw [e1]; rfl)).1
  have hW2 : ∀ k, blk (η 3) = some k → W k := fun k hk => (hnew 3 k hk).1
  have hone1 : Elems Tryd.prog w (⟨A, w.heap.size, η⟩ : Gh).ok 5 (fun k => ([Value.int .u8 c])[k]?) [.i c] := fun i hi => by
    have hi0 : i = 0 := by simp at hi; omega
    subst hi0
    refine ⟨fun h => (by rw [u8C2] at h; cases h), fun j hj => ?_⟩
    rw [u8C1] at hj ⊢
    obtain rfl : j = 0 := by omega
    rw [u8C2, u8C3]
    exact ⟨_, rfl, RepC.int .u8 c⟩
  have hE' : Elems Tryd.prog w (⟨A, w.heap.size, η⟩ : Gh).ok 5 (fun k => (cl ++ [Value.int .u8 c])[k]?) (l ++ [.i c]) := elems_append (by rw [hl, u8C1, Nat.mul_one]) hE hone1
  obtain ⟨r1, r2, r3, r4⟩ := close_bf (p := 2) (B := fun b => A b ∨ w.heap.size ≤ b) (W := W) (w := w) hbf' (by simp [hl]) hE' (.inr hWb) (fun k hk => (hv' k hk).symm.imp id (hW2 k))
  refine ⟨[.nilIface], ηbf 2 b v', rfl, bw_sub hbel fun k hk => hk.elim (fun h => by rw [h]; exact hWb) (hW2 k), ?_, r1, r3, r4⟩
  show RelVs _ _ _ _ [V.er 0, V.ref 2 0] _
  simp only [List.map_cons, List.map_nil, List.cons_append, List.nil_append, RelVs]
  refine ⟨?_, ?_, trivial⟩
  · simp only [RelV]; exact ⟨fun _ => trivial, fun h => by omega, fun h => by omega⟩
  · exact r2
/-- Len. -/
def GBuffer_Len.f (x : List D × Int × Int × Unit) : Option (Int × List D × Int × Int × Unit) := bif x.2.1 == 0 then some ((x.1.length : Int), x.1, 0, x.2.2.1, ()) else none
def GBuffer_Len.pk : List FK := [bfK]
def GBuffer_Len.rk : List FK := [.int .i64, bfK]
def GBuffer_Len.g : Tp GBuffer_Len.pk → Option (Tp GBuffer_Len.rk) := fun x => GBuffer_Len.f x
theorem GBuffer_Len.spec : SpecIO Tryd.prog 32 GBuffer_Len.pk [0] GBuffer_Len.rk GBuffer_Len.g := by
  intro x y hg A W w η vals hL hgs hv ho hinj hnew
  obtain ⟨l, off, lr, u⟩ := x
  obtain ⟨p, rfl, hp⟩ := vals1 hv
  obtain ⟨h0, hy⟩ := cond_some (show GBuffer_Len.f (l, off, lr, u) = some y from hg)
  obtain rfl : off = 0 := by simpa using h0
  obtain rfl := Option.some.inj hy
  obtain ⟨b, T, cl, rfl, e1, hbf, hl, hE, hone⟩ := open_bf hp ho hinj
  refine (Len_bf b (η 3) lr cl w hbf).mono fun e w' he => ?_
  obtain ⟨rfl, n, rfl⟩ := he
  have hWb : W b := (hnew 1 b (by rw [e1]; rfl)).1
  have hW2 : ∀ k, blk (η 3) = some k → W k := fun k hk => (hnew 3 k hk).1
  obtain ⟨r1, r2, r3, r4⟩ := close_bf (p := 2) (B := fun b => A b ∨ w.heap.size ≤ b) (W := W) (w := w) (w' := w.drewN n) (T := T) (lr := lr) (b := b) (v := η 3) ⟨hbf.heap, hbf.own, hbf.ne⟩ hl hE (.inr hWb) (fun k hk => .inr (hW2 k hk))
  refine ⟨[.int .i64 cl.length], ηbf 2 b (η 3), rfl, ⟨rfl, rfl, rfl, Nat.le_refl _, fun _ _ _ => rfl⟩, ?_, r1, r3, r4⟩
  show RelVs _ _ _ _ [V.i .i64 _, V.ref 2 0] _
  simp only [List.map_cons, List.map_nil, List.cons_append, List.nil_append, RelVs]
  refine ⟨by simp only [RelV, hl], ?_, trivial⟩
  exact r2
/-- Bytes. -/
def GBuffer_Bytes.f (x : List D × Int × Int × Unit) : Option (List D × Unit) := bif x.2.1 == 0 then some (x.1, ()) else none
def GBuffer_Bytes.pk : List FK := [bfK]
def GBuffer_Bytes.rk : List FK := [.own 5, .bx .zz]
def GBuffer_Bytes.g : Tp GBuffer_Bytes.pk → Option (Tp GBuffer_Bytes.rk) := fun x => GBuffer_Bytes.f x
theorem GBuffer_Bytes.spec : SpecIO Tryd.prog 33 GBuffer_Bytes.pk [0] GBuffer_Bytes.rk GBuffer_Bytes.g := by
  intro x y hg A W w η vals hL hgs hv ho hinj hnew
  obtain ⟨l, off, lr, u⟩ := x
  obtain ⟨p, rfl, hp⟩ := vals1 hv
  obtain ⟨h0, hy⟩ := cond_some (show GBuffer_Bytes.f (l, off, lr, u) = some y from hg)
  obtain rfl : off = 0 := by simpa using h0
  obtain rfl := Option.some.inj hy
  obtain ⟨b, T, cl, rfl, e1, hbf, hl, hE, hone⟩ := open_bf hp ho hinj
  refine (Bytes_bf b (η 3) lr cl w hbf).mono fun e w' he => ?_
  obtain ⟨rfl, m, rfl⟩ := he
  have hWb : W b := (hnew 1 b (by rw [e1]; rfl)).1
  have hW2 : ∀ k, blk (η 3) = some k → W k := fun k hk => (hnew 3 k hk).1
  have o1 : mkOb (obR Tryd.prog 1 GBuffer_Bytes.rk (l, ())) 1 = .row 5 l 1 := rfl
  have o2 : mkOb (obR Tryd.prog 1 GBuffer_Bytes.rk (l, ())) 2 = .box .z := rfl
  have o3 : ∀ n, n ≠ 1 → n ≠ 2 → mkOb (obR Tryd.prog 1 GBuffer_Bytes.rk (l, ())) n = .none := fun n h1 h2 => by
    show mkOb [(1, .row 5 l 1), (2, .box .z)] n = .none
    simp [mkOb, beq_false h1, beq_false h2]
  let η' : Nat → Value := fun n => if n = 1 then η 3 else if n = 2 then .pointer (some ⟨b, 0, none⟩) else undef
  have hη1 : η' 1 = η 3 := if_pos rfl
  have hη2 : η' 2 = .pointer (some ⟨b, 0, none⟩) := rfl
  have hη3 : ∀ n, n ≠ 1 → n ≠ 2 → η' n = undef := fun n h1 h2 => (if_neg h1).trans (if_neg h2)
  have hin : ∀ n b', blk (η' n) = some b' → (n = 1 ∧ blk (η 3) = some b') ∨ (n = 2 ∧ b' = b) := fun n b' h => by
    by_cases h1 : n = 1
    · subst h1; rw [hη1] at h; exact .inl ⟨rfl, h⟩
    · by_cases h2 : n = 2
      · subst h2; rw [hη2] at h; exact .inr ⟨rfl, by simpa [blk] using h.symm⟩
      · rw [hη3 n h1 h2] at h; simp [undef, blk] at h
  have hone3 : (η 3).oneCell' = true := by rcases hbf.own.2 with ⟨h, _⟩ | ⟨_, _, _, h, _⟩ <;> rw [h] <;> rfl
  refine ⟨[η 3], η', rfl, ⟨rfl, rfl, rfl, Nat.le_refl _, fun _ _ _ => rfl⟩, ?_, fun n => ?_, fun n m b' h1 h2 => ?_, fun n b' h => ?_⟩
  · show RelVs _ _ _ _ [V.own 1 1, V.ref 2 0] _
    simp only [List.map_cons, List.map_nil, List.cons_append, List.nil_append, RelVs, RelV]
    rw [o1, o2]
    exact ⟨⟨hone3, Nat.le_refl _, fun _ => rfl⟩, ⟨rfl, b, rfl, rfl⟩, trivial⟩
  · by_cases h1 : n = 1
    · subst h1
      rw [o1]
      refine ⟨u8C4, cl, ?_, flat_elems u8C4 u8C5 hE _⟩
      show (w.drewN m).ownsT _ 0 _ _ (η 3) _ _
      rw [u8C1, ← hl]
      have hown : (w.drewN m).ownsRow 0 5 1 (η 3) cl.length cl := hbf.own
      exact World.ownsT_of hown
    · by_cases h2 : n = 2
      · subst h2
        rw [o2]
        exact ⟨b, T, .agg #[η 3, .int .i64 0, .int .i8 lr], rfl, hbf.heap, by simp only [RelV]⟩
      · rw [o3 n h1 h2]; simp only [RelO]
  · rcases hin n b' h1 with ⟨a1, a2⟩ | ⟨a1, a2⟩ <;> rcases hin m b' h2 with ⟨c1, c2⟩ | ⟨c1, c2⟩
    · omega
    · exact absurd a2 (by rw [c2]; exact hbf.ne)
    · exact absurd c2 (by rw [a2]; exact hbf.ne)
    · omega
  · rcases hin n b' h with ⟨-, a2⟩ | ⟨-, a2⟩
    · exact ⟨.inr (hW2 b' a2), bf_lt hbf a2⟩
    · rw [a2]; exact ⟨.inr hWb, hbf.lt⟩
end Go.Pv
