/- An evaluator of the model's code on data, and what its answers mean for the machine (first part). -/
import Derived.Calls
import Derived.Laws.OwnMore
import Derived.Maps.Own
import Derived.Maps.OwnOps
import Derived.Still
import Derived.Laws.IdiomStrings
import Derived.Laws.BytesArg
import Derived.Laws.StructEq
import Derived.Lib.LazyBuf
import Derived.Maps.Views
import Derived.StringKeys
import Derived.Below
set_option linter.unusedVariables false
set_option linter.unusedSimpArgs false
namespace Go.Pv

/-- Data: whole numbers, bools, strings, slices, structs (their cells in a row). -/
inductive D where
  | i (n : Int) | b (x : Bool) | s (x : ByteArray) | l (xs : List D) | r (xs : List D)
  deriving Inhabited

def D.int : D → Int | .i n => n | _ => 0
def D.bool : D → Bool | .b x => x | _ => false
def D.str : D → ByteArray | .s x => x | _ => .empty
def D.list : D → List D | .l xs => xs | _ => []
def D.cells : D → List D | .r xs => xs | _ => []
def rd : List D → Nat → D
  | [], _ => .i 0
  | x :: _, 0 => x
  | _ :: xs, n + 1 => rd xs n
def D.cell (d : D) (j : Nat) : D := rd d.cells j
/-- The cells of an element: those of a struct, or the one of anything else. -/
def D.ecell (ag : Bool) (d : D) (j : Nat) : D := match ag with | true => d.cell j | false => d
def bt (s : ByteArray) (i : Nat) : Int := ((s.data.toList.getD i 0).toNat : Int)

/-- The kinds of cells. -/
inductive K where
  | int (k : IntKind) | bool | str | sl (e : TypeId) | oth
  deriving Inhabited

def kindOf (P : Program) (t : TypeId) : K :=
  match P.underlying t with
  | some (.int k) => .int k
  | some .bool => .bool
  | some .string => .str
  | some (.slice e) => .sl e
  | _ => .oth

def aggD : TypeDesc → Bool
  | .struct _ | .array _ _ => true
  | _ => false
def isA (P : Program) (t : TypeId) : Bool :=
  match P.underlying t with
  | some d => aggD d
  | none => false

/-- The kinds of a type's cells in a row. -/
def cksF (P : Program) : Nat → TypeId → List K
  | 0, _ => []
  | n + 1, t =>
    match P.underlying t with
    | some (.struct fs) => fs.toList.flatMap fun f => cksF P n f.type
    | some (.array m e) => (List.replicate m (cksF P n e)).flatten
    | _ => [kindOf P t]
def cks (P : Program) (t : TypeId) : List K := cksF P 6 t
/-- How many cells a value of the type takes. -/
def csz (P : Program) (t : TypeId) : Nat := match P.info? t with | some i => i.size | none => 0
/-- A type whose cells are told rightly by 'cks'. -/
def okT (P : Program) (t : TypeId) : Bool :=
  (P.underlying t).isSome && Nat.beq (cks P t).length (csz P t) && Nat.blt 0 (csz P t) && (isA P t || Nat.beq (csz P t) 1)
def kget : List K → Nat → K
  | [], _ => .oth
  | x :: _, 0 => x
  | _ :: xs, n + 1 => kget xs n

/-- A cell's value reads as data: P the program, w the world, ok the blocks that it may lie in. -/
inductive RepC (P : Program) (w : World) (ok : Nat → Prop) : K → Value → D → Prop where
  | int (k : IntKind) (n : Int) : RepC P w ok (.int k) (.int k n) (.i n)
  | bool (x : Bool) : RepC P w ok .bool (.bool x) (.b x)
  | str (x : ByteArray) : RepC P w ok .str (.string x) (.s x)
  | nil (e : TypeId) : RepC P w ok (.sl e) (.slice none 0 0) (.l [])
  | mt (e : TypeId) (a : Addr) (cap : Nat) (hT : okT P e = true) : RepC P w ok (.sl e) (.slice (some a) 0 cap) (.l [])
  | sl (e : TypeId) (b off cap : Nat) (xs : List D) (cs : Array Value) (el : TypeId) (fz : Nat × Nat) (vs : Nat → Nat → Value)
      (hok : ok b) (hb : w.heap[b]? = some (.cells cs el fz)) (hT : okT P e = true) (hc : xs.length ≤ cap)
      (hv : ∀ i j, i < xs.length → j < csz P e → cs[off + i * csz P e + j]? = some (vs i j))
      (hs : ∀ i, i < xs.length → isA P e = true → ∃ ds, rd xs i = .r ds ∧ ds.length = csz P e)
      (hr : ∀ i j, i < xs.length → j < csz P e → RepC P w ok (kget (cks P e) j) (vs i j) ((rd xs i).ecell (isA P e) j)) :
      RepC P w ok (.sl e) (.slice (some ⟨b, off, none⟩) xs.length cap) (.l xs)

/-- What reads as data goes on reading so where the blocks that it lies in are as they were. -/
theorem RepC.mono {P : Program} {w w' : World} {ok ok' : Nat → Prop} (h : ∀ b, ok b → ok' b ∧ w'.heap[b]? = w.heap[b]?) {k : K} {v : Value} {d : D}
    (r : RepC P w ok k v d) : RepC P w' ok' k v d := by
  induction r with
  | int k n => exact .int k n
  | bool x => exact .bool x
  | str x => exact .str x
  | nil e => exact .nil e
  | mt e a cap hT => exact .mt e a cap hT
  | sl e b off cap xs cs el fz vs hok hb hT hc hv hs hr ih =>
    exact .sl e b off cap xs cs el fz vs (h b hok).1 ((h b hok).2.trans hb) hT hc hv hs ih

/-- Cells in a row read as the cells of data. -/
def Cells (P : Program) (w : World) (ok : Nat → Prop) (ks : List K) (get : Nat → Option Value) (f : Nat → D) : Prop :=
  ∀ j, j < ks.length → ∃ v, get j = some v ∧ RepC P w ok (kget ks j) v (f j)
/-- Elements in a row. -/
def Elems (P : Program) (w : World) (ok : Nat → Prop) (e : TypeId) (get : Nat → Option Value) (xs : List D) : Prop :=
  ∀ i, i < xs.length → (isA P e = true → ∃ ds, rd xs i = .r ds ∧ ds.length = csz P e) ∧
    ∀ j, j < csz P e → ∃ v, get (i * csz P e + j) = some v ∧ RepC P w ok (kget (cks P e) j) v ((rd xs i).ecell (isA P e) j)

theorem RepC.slice {P : Program} {w : World} {ok : Nat → Prop} {e : TypeId} {b off cap : Nat} {xs : List D} {cs : Array Value} {el : TypeId} {fz : Nat × Nat}
    (hok : ok b) (hb : w.heap[b]? = some (.cells cs el fz)) (hT : okT P e = true) (hc : xs.length ≤ cap) (h : Elems P w ok e (fun k => cs[off + k]?) xs) :
    RepC P w ok (.sl e) (.slice (some ⟨b, off, none⟩) xs.length cap) (.l xs) := by
  refine .sl e b off cap xs cs el fz (fun i j => (cs[off + i * csz P e + j]?).getD undef) hok hb hT hc ?_ (fun i hi => (h i hi).1) ?_
  · intro i j hi hj
    obtain ⟨v, hv, _⟩ := (h i hi).2 j hj
    simp only [← Nat.add_assoc] at hv
    simp [hv]
  · intro i j hi hj
    obtain ⟨v, hv, hr⟩ := (h i hi).2 j hj
    simp only [← Nat.add_assoc] at hv
    simpa [hv] using hr

/-- A slice that reads as data: nil, or elements in a block. -/
theorem RepC.of_sl {P : Program} {w : World} {ok : Nat → Prop} {e : TypeId} {v : Value} {d : D} (r : RepC P w ok (.sl e) v d) :
    (v = .slice none 0 0 ∧ d = .l []) ∨ (∃ a cap, v = .slice (some a) 0 cap ∧ d = .l [] ∧ okT P e = true) ∨ ∃ b off cap xs cs el fz, v = .slice (some ⟨b, off, none⟩) xs.length cap ∧ d = .l xs ∧ ok b ∧ w.heap[b]? = some (.cells cs el fz) ∧ okT P e = true ∧ xs.length ≤ cap ∧
      Elems P w ok e (fun k => cs[off + k]?) xs := by
  cases r with
  | nil => exact .inl ⟨rfl, rfl⟩
  | mt _ a cap hT => exact .inr (.inl ⟨a, cap, rfl, rfl, hT⟩)
  | sl _ b off cap xs cs el fz vs hok hb hT hc hv hs hr =>
    exact .inr (.inr ⟨b, off, cap, xs, cs, el, fz, rfl, rfl, hok, hb, hT, hc, fun i hi => ⟨hs i hi, fun j hj => ⟨vs i j, by simp only [← Nat.add_assoc]; exact hv i j hi hj, hr i j hi hj⟩⟩⟩)

theorem RepC.list {P : Program} {w : World} {ok : Nat → Prop} {e : TypeId} {v : Value} {d : D} (r : RepC P w ok (.sl e) v d) : d = .l d.list := by
  cases r <;> rfl

theorem RepC.one {P : Program} {w : World} {ok : Nat → Prop} {k : K} {v : Value} {d : D} (r : RepC P w ok k v d) : v.oneCell' = true := by
  cases r <;> rfl

theorem Elems.mono {P : Program} {w w' : World} {ok ok' : Nat → Prop} (h : ∀ b, ok b → ok' b ∧ w'.heap[b]? = w.heap[b]?) {e : TypeId} {get : Nat → Option Value} {xs : List D}
    (r : Elems P w ok e get xs) : Elems P w' ok' e get xs := fun i hi =>
  ⟨(r i hi).1, fun j hj => let ⟨v, hv, hr⟩ := (r i hi).2 j hj; ⟨v, hv, hr.mono h⟩⟩

theorem Cells.mono {P : Program} {w w' : World} {ok ok' : Nat → Prop} (h : ∀ b, ok b → ok' b ∧ w'.heap[b]? = w.heap[b]?) {ks : List K} {get : Nat → Option Value} {f : Nat → D}
    (r : Cells P w ok ks get f) : Cells P w' ok' ks get f := fun j hj =>
  let ⟨v, hv, hr⟩ := r j hj; ⟨v, hv, hr.mono h⟩

/-- Values of temporaries. -/
inductive V where
  | z
  | i (k : IntKind) (n : Int)
  | b (x : Bool)
  | s (x : ByteArray)
  | nil
  | sl (e : TypeId) (xs : List D)
  | p (ks : List K) (d : D)
  | arr (e : TypeId) (xs : List D)
  | agg (vs : List V)
  | tup (vs : List V)
  | ref (n o : Nat)
  | ev (n g i j : Nat)
  | cr (e : TypeId) (d : D) (j : Nat)
  | own (n g : Nat)
  | vw (n g lo hi : Nat)
  | fn (f : FuncId) (caps : List V)
  | mp (n : Nat)
  | mt (e : TypeId)
  | bm (f : FuncId) (fs : List V)
  | er (c : Nat)
  deriving Inhabited

/-- Objects that the call made, or that were handed to it to write (dead: given away for good). -/
inductive O where
  | none
  | box (v : V)
  | row (e : TypeId) (xs : List D) (g : Nat)
  | fz (e : TypeId) (xs : List D) (g : Nat)
  | arr (e : TypeId) (xs : List D)
  | mp (k e : TypeId) (l : List (D × D))
  | dead
  | bd (t : TypeId) (x : V)
  deriving Inhabited

/-- Of what the relation speaks beside the program and the world: the blocks that data may lie in; of each object its header (a slice) or its address. -/
structure Gh where
  A : Nat → Prop
  N : Nat
  η : Nat → Value

def blk : Value → Option Nat
  | .slice (some a) _ _ => some a.block
  | .pointer (some a) => some a.block
  | .map (some b) => some b
  | _ => none

/-- A key, an element of a map as the kit's reader has it. -/
def litD (P : Program) (t : TypeId) (d : D) : Lit :=
  match P.underlying t with
  | some (.int k) => .int k d.int
  | some .bool => .bool d.bool
  | _ => .string d.str.data.toList
def mapD (P : Program) (k e : TypeId) : List (D × D) → DataW Unit
  | [] => .map []
  | (x, y) :: r => (mapD P k e r).put (litD P k x) (.lit (litD P e y))

/-- Blocks that read-only data may lie in. -/
def Gh.ok (G : Gh) (b : Nat) : Prop := G.A b ∧ b < G.N ∧ ∀ n, blk (G.η n) ≠ some b

/-- A part of a slice that the call owns. -/
def RepV (P : Program) (e : TypeId) (lo hi : Nat) (h v : Value) : Prop :=
  match h with
  | .slice (some a) _ _ => ∃ off cap, v = .slice (some ⟨a.block, off, none⟩) (hi - lo) cap ∧ (lo < hi → off = lo * csz P e) ∧ hi - lo ≤ cap
  | _ => v = .slice none 0 0

mutual
/-- A value of a temporary stands for a value of the machine. -/
def RelV (P : Program) (G : Gh) (ob : Nat → O) (w : World) : V → Value → Prop
  | .z, _ => True
  | .i k n, v => v = .int k n
  | .b x, v => v = .bool x
  | .s x, v => v = .string x
  | .nil, v => v = .slice none 0 0
  | .sl e xs, v => RepC P w G.ok (.sl e) v (.l xs)
  | .p ks d, v => ∃ cs : Array Value, v = .agg cs ∧ cs.size = ks.length ∧ (∃ ds, d = .r ds ∧ ds.length = ks.length) ∧ Cells P w G.ok ks (fun k => cs[k]?) d.cell
  | .arr e xs, v => ∃ cs : Array Value, v = .agg cs ∧ cs.size = xs.length * csz P e ∧ okT P e = true ∧ Elems P w G.ok e (fun k => cs[k]?) xs
  | .agg vs, v => ∃ cs : Array Value, v = .agg cs ∧ (∀ u ∈ cs, u.oneCell' = true) ∧ RelVs P G ob w vs cs.toList
  | .tup vs, v => ∃ cs : Array Value, v = .tuple cs ∧ RelVs P G ob w vs cs.toList
  | .ref n o, v => v.oneCell' = true ∧ match ob n with
    | .none => False
    | .fz .. => True
    | .row .. | .mp .. | .dead => True
    | .box _ | .arr .. | .bd .. => ∃ b, G.η n = .pointer (some ⟨b, 0, none⟩) ∧ v = .pointer (some ⟨b, o, none⟩)
  | .ev n g i j, v => v.oneCell' = true ∧ match ob n with
    | .none => False
    | .row e _ g' => g ≤ g' ∧ (g = g' → ∃ b len cap, G.η n = .slice (some ⟨b, 0, none⟩) len cap ∧ v = .pointer (some ⟨b, i * csz P e + j, none⟩))
    | .arr e _ => ∃ b, G.η n = .pointer (some ⟨b, 0, none⟩) ∧ v = .pointer (some ⟨b, i * csz P e + j, none⟩)
    | _ => True
  | .cr e d j, v => ∃ b off cs el fz, v = .pointer (some ⟨b, off + j, none⟩) ∧ G.ok b ∧ w.heap[b]? = some (.cells cs el fz) ∧ okT P e = true ∧
      (isA P e = true → ∃ ds, d = .r ds ∧ ds.length = csz P e) ∧ ∀ j, j < csz P e → ∃ v, cs[off + j]? = some v ∧ RepC P w G.ok (kget (cks P e) j) v (d.ecell (isA P e) j)
  | .own n g, v => v.oneCell' = true ∧ match ob n with
    | .none => False
    | .row _ _ g' => g ≤ g' ∧ (g = g' → v = G.η n)
    | .fz e xs g' => g = g' → RepC P w G.ok (.sl e) v (.l xs)
    | .box _ | .arr .. | .mp .. | .dead | .bd .. => True
  | .vw n g lo hi, v => v.oneCell' = true ∧ match ob n with
    | .none => False
    | .row e xs g' => g ≤ g' ∧ (g = g' → lo ≤ hi ∧ hi ≤ xs.length ∧ RepV P e lo hi (G.η n) v)
    | .fz e xs g' => g = g' → RepC P w G.ok (.sl e) v (.l ((xs.take hi).drop lo))
    | _ => True
  | .fn f caps, v => ∃ cs : Array Value, v = .func (.func f) #[] cs ∧ RelVs P G ob w caps cs.toList
  | .bm f fs, v => ∃ cs : Array Value, v = .func (.func f) cs #[] ∧ RelVs P G ob w fs cs.toList
  | .er c, v => (c = 0 → v = .nilIface) ∧ (c = 1 → ∃ t u, v = .iface t u) ∧ (2 ≤ c → v = .iface ((c - 2) / 8) (.int .i64 (((c - 2) % 8 : Nat) : Int)))
  | .mt e, v => okT P e = true ∧ ∃ a cap, v = .slice (some a) 0 cap
  | .mp n, v => v.oneCell' = true ∧ match ob n with
    | .none => False
    | .mp .. => ∃ b, G.η n = .map (some b) ∧ v = .map (some b)
    | _ => True
def RelVs (P : Program) (G : Gh) (ob : Nat → O) (w : World) : List V → List Value → Prop
  | [], [] => True
  | x :: xs, v :: vs => RelV P G ob w x v ∧ RelVs P G ob w xs vs
  | _, _ => False
end

/-- Is the value one of several cells? -/
def V.isAg : V → Bool | .p _ _ | .agg _ => true | _ => false
/-- Is the value known, and one of a single cell? -/
def V.one : V → Bool | .p _ _ | .agg _ | .arr _ _ | .tup _ | .z | .er _ => false | _ => true

/-- As 'ownsRow'; where st is false a stretch behind all cells of the block may be frozen (the mark that a conversion of a string leaves). -/
def _root_.Go.World.ownsT (w : World) (st : Bool) (base : Nat) (e : TypeId) (size : Nat) (v : Value) (n : Nat) (xs : List Value) : Prop :=
  xs.length = n * size ∧
  ((v = .slice none 0 0 ∧ n = 0) ∨
   ∃ g cap cur fz, v = .slice (some ⟨g, 0, none⟩) n cap ∧ base ≤ g ∧ w.heap[g]? = some (.cells cur e fz) ∧ (fz = (0, 0) ∨ (st = false ∧ cur.size ≤ fz.1)) ∧ n ≤ cap ∧ cap ≤ maxLen ∧ cur.size = cap * size ∧ cur.toList.take (n * size) = xs)
section
variable {w : World} {base : Nat} {e : TypeId} {size : Nat} {v : Value} {n : Nat} {xs : List Value} {st : Bool}
theorem _root_.Go.World.ownsT_of (h : w.ownsRow base e size v n xs) : w.ownsT st base e size v n xs := by
  refine ⟨h.1, ?_⟩
  rcases h.2 with hn | ⟨g, cap, cur, hv, hb, hg, rest⟩
  · exact .inl hn
  · exact .inr ⟨g, cap, cur, (0, 0), hv, hb, hg, .inl rfl, rest⟩
theorem _root_.Go.World.ownsT.weak (h : w.ownsT st base e size v n xs) : w.ownsT false base e size v n xs := by
  refine ⟨h.1, ?_⟩
  rcases h.2 with hn | ⟨g, cap, cur, fz, hv, hb, hg, hf, rest⟩
  · exact .inl hn
  · exact .inr ⟨g, cap, cur, fz, hv, hb, hg, hf.imp id fun h => ⟨rfl, h.2⟩, rest⟩
theorem _root_.Go.World.ownsT_nil (w : World) (st : Bool) (base : Nat) (e : TypeId) (size : Nat) : w.ownsT st base e size (.slice none 0 0) 0 [] := ⟨by simp, .inl ⟨rfl, rfl⟩⟩
theorem _root_.Go.World.ownsT.kept {w' : World} {row : Option Nat} (h : w.ownsT st base e size v n xs) (hg : w.grownBy w' row) (hne : v.ownBlock = none ∨ v.ownBlock ≠ row) : w'.ownsT st base e size v n xs := by
  refine ⟨h.1, ?_⟩
  rcases h.2 with hn | ⟨g, cap, cur, fz, rfl, hb, hgg, rest⟩
  · exact .inl hn
  · refine .inr ⟨g, cap, cur, fz, rfl, hb, ?_, rest⟩
    rw [hg.block g (Array.getElem?_eq_some_iff.1 hgg).1 (by simpa [Value.ownBlock] using hne)]
    exact hgg
theorem _root_.Go.World.ownsT.lt (h : w.ownsT st base e size v n xs) : ∀ k, v.ownBlock = some k → base ≤ k ∧ k < w.heap.size := by
  intro k hk
  rcases h.2 with ⟨rfl, _⟩ | ⟨g, cap, cur, fz, rfl, hb, hg, _⟩
  · simp [Value.ownBlock] at hk
  · simp [Value.ownBlock] at hk
    subst hk
    exact ⟨hb, (Array.getElem?_eq_some_iff.1 hg).1⟩
theorem _root_.Go.World.ownsT.cellAt {g cap : Nat} (h : w.ownsT st base e size (.slice (some ⟨g, 0, none⟩) n cap) n xs) (j : Nat) (hj : j < n * size) : w.cell? ⟨g, j, none⟩ = xs[j]? := by
  rcases h.2 with ⟨hv, _⟩ | ⟨g', cap', cur, fz, hv, _, hgg, _, _, _, _, htake⟩
  · cases hv
  · injection hv with h1 h2 h3
    injection h1 with h1
    injection h1 with h1
    subst h1
    rw [cell_of_row w g j cur e fz hgg, ← htake, List.getElem?_take, if_pos hj]
    simp
theorem _root_.Go.World.ownsT.cells {g : Nat} (h : w.ownsT st base e size v n xs) (hg : v.ownBlock = some g) : ∀ j u, xs[j]? = some u → w.cell? ((⟨g, 0, none⟩ : Addr).add j) = some u := by
  intro j u hu
  rcases h.2 with ⟨rfl, _⟩ | ⟨g', cap, cur, fz, rfl, _, hgg, _, _, _, _, htake⟩
  · simp [Value.ownBlock] at hg
  · simp [Value.ownBlock] at hg
    subst hg
    have hadd : (⟨g', 0, none⟩ : Addr).add j = ⟨g', j, none⟩ := by unfold Addr.add; split <;> simp_all
    rw [hadd, cell_of_row w g' j cur e fz hgg]
    rw [← htake, List.getElem?_take] at hu
    split at hu
    · simpa using hu
    · cases hu
end

/-- Rows whose generation is odd have nothing frozen at all. -/
def od (g : Nat) : Bool := Nat.beq (g % 2) 1

/-- An object lies in its block as it should. -/
def RelO (P : Program) (G : Gh) (ob : Nat → O) (w : World) (n : Nat) : O → Prop
  | .none => True
  | .box x => ∃ b el val, G.η n = .pointer (some ⟨b, 0, none⟩) ∧ w.heap[b]? = some (.cells val.cells el (0, 0)) ∧ RelV P G ob w x val
  | .row e xs g => okT P e = true ∧ ∃ cl : List Value, w.ownsT (od g) 0 e (csz P e) (G.η n) xs.length cl ∧ Elems P w G.ok e (fun k => cl[k]?) xs
  | .fz .. => True
  | .arr e xs => okT P e = true ∧ ∃ b el cs, G.η n = .pointer (some ⟨b, 0, none⟩) ∧ w.heap[b]? = some (.cells cs el (0, 0)) ∧ cs.size = xs.length * csz P e ∧ Elems P w G.ok e (fun k => cs[k]?) xs
  | .mp k e l => ∃ b, G.η n = .map (some b) ∧ w.ownsMap P k (plainElem P e) b l.length (mapD P k e l)
  | .dead => True
  | .bd t x => ∃ b pv val, G.η n = .pointer (some ⟨b, 0, none⟩) ∧ w.heap[b]? = some (.cells #[pv, val] t (0, 0)) ∧ (pv = .pointer none ∨ pv = .pointer (some ⟨b, 0, none⟩)) ∧ RelV P G ob w x val

end Go.Pv

namespace Go.Pv

structure St where
  env : Nat → V
  ob : Nat → O
  ge : Nat → Option (Nat × Bool × V)
  kn : Nat → Option Bool

def gd {R : Type} (c : Bool) (x : Option R) : Option R := bif c then x else .none
def gdo {R : Type} (c : Option Bool) (x : Option R) : Option R := match c with | none => x | some c => gd c x

def cV : Value → V
  | .int k n => .i k n
  | .bool x => .b x
  | .string x => .s x
  | .nilIface => .er 0
  | .slice none 0 0 => .nil
  | _ => .z

def ofK : K → D → V
  | .int k, d => .i k d.int
  | .bool, d => .b d.bool
  | .str, d => .s d.str
  | .sl e, d => .sl e d.list
  | .oth, _ => .z

def ofKs : List K → D → Nat → List V
  | [], _, _ => []
  | k :: ks, d, j => ofK k (d.cell j) :: ofKs ks d (j + 1)

def ikEq : IntKind → IntKind → Bool
  | .i64, .i64 | .u8, .u8 | .i32, .i32 | .u64, .u64 | .u32, .u32 | .i8, .i8 | .i16, .i16 | .u16, .u16 => true
  | _, _ => false
def kEq : K → K → Bool
  | .int a, .int b => ikEq a b
  | .bool, .bool | .str, .str => true
  | .sl e, .sl f => Nat.beq e f
  | _, _ => false
def ksEq : List K → List K → Bool
  | [], [] => true
  | a :: as, b :: bs => kEq a b && ksEq as bs
  | _, _ => false

def binI (op : BinOp) (k : IntKind) (a b : Int) : Option (Option Bool × V) :=
  match op with
  | .add => some (none, .i k (k.wrap (a + b)))
  | .sub => some (none, .i k (k.wrap (a - b)))
  | .mul => some (none, .i k (k.wrap (a * b)))
  | .quo => some (some (!(b == 0)), .i k (k.wrap (a.tdiv b)))
  | .rem => some (some (!(b == 0)), .i k (a.tmod b))
  | .eql => some (none, .b (a == b))
  | .neq => some (none, .b (a != b))
  | .lss => some (none, .b (decide (a < b)))
  | .leq => some (none, .b (decide (a ≤ b)))
  | .gtr => some (none, .b (decide (a > b)))
  | .geq => some (none, .b (decide (a ≥ b)))
  | .shl => some (some (decide (0 ≤ b)), .i k (k.wrap (a * 2 ^ (min b.toNat k.bits))))
  | .shr => some (some (decide (0 ≤ b)), .i k (a.fdiv (2 ^ (min b.toNat k.bits))))
  | .and => some (none, .i k (k.wrap ((BitVec.ofInt k.bits a &&& BitVec.ofInt k.bits b).toNat : Int)))
  | .or => some (none, .i k (k.wrap ((BitVec.ofInt k.bits a ||| BitVec.ofInt k.bits b).toNat : Int)))
  | .andNot => some (none, .i k (k.wrap ((BitVec.ofInt k.bits a &&& ~~~ BitVec.ofInt k.bits b).toNat : Int)))
  | _ => none

def maxS : Nat := 140737488355328

def binS (op : BinOp) (a b : ByteArray) : Option (Option Bool × V) :=
  match op with
  | .add => some (some (decide (a.size + b.size ≤ maxS)), .s (a ++ b))
  | .eql => some (none, .b (a.toList == b.toList))
  | .neq => some (none, .b (!(a.toList == b.toList)))
  | _ => none

/-- Where a field begins; only fields of some size. -/
def fieldOff (P : Program) (t : TypeId) (f : Nat) : Option Nat :=
  match P.underlying t with
  | some (.struct fs) => match fs[f]? with
    | some x => match Nat.blt 0 (csz P x.type) with | true => some x.offset | false => none
    | none => none
  | _ => none

def lget : List V → Nat → V
  | [], _ => .z
  | x :: _, 0 => x
  | _ :: xs, n + 1 => lget xs n
def lset : List V → Nat → V → List V
  | [], _, _ => []
  | _ :: xs, 0, v => v :: xs
  | x :: xs, n + 1, v => x :: lset xs n v

/-- The cells of a box, one by one. -/
def vcells : V → List V
  | .agg vs => vs
  | .p ks d => ofKs ks d 0
  | v => [v]
/-- How many cells. -/
def vcount : V → Nat
  | .agg vs => vs.length
  | .p ks _ => ks.length
  | _ => 1

/-- A scalar's cell out of a box. -/
def cellOf : V → Nat → V
  | .agg vs, o => lget vs o
  | .p ks d, o => ofK (kget ks o) (d.cell o)
  | .arr _ _, _ => .z
  | v, _ => v

def eqC : Option TypeDesc → V → V → Option Bool
  | some (.int _), .i k a, .i k' b => match ikEq k k' with | true => some (a == b) | false => none
  | some .bool, .b a, .b b => some (a == b)
  | some .string, .s a, .s b => some (a.toList == b.toList)
  | _, _, _ => none
/-- Structs are equal in all fields. -/
def eqFs (P : Program) : List Field → V → V → Option Bool
  | [], _, _ => some true
  | f :: fs, x, y => match Nat.blt f.offset (vcount x) && (Nat.blt f.offset (vcount y) && !(f.name == "_")), eqC (P.underlying f.type) (cellOf x f.offset) (cellOf y f.offset), eqFs P fs x y with
    | true, some a, some b => some (a && b)
    | _, _, _ => none

/-- A slice against nil: r if it is nil, where the test holds. -/
def nilV (P : Program) (op : BinOp) (t : TypeId) (c : Option Bool) (r : Bool) : Option (Option Bool × V) :=
  match op, P.underlying t with
  | .eql, some (.slice _) => some (c, .b r)
  | .neq, some (.slice _) => some (c, .b (!r))
  | _, _ => none

def binV (P : Program) (op : BinOp) (t : TypeId) : V → V → Option (Option Bool × V)
  | .i k a, .i k' b => match ikEq k k' with | true => binI op k a b | false => none
  | .b x, .b y => match P.underlying t with
    | some .bool => match op with | .eql => some (none, .b (x == y)) | .neq => some (none, .b (!(x == y))) | _ => none
    | _ => none
  | .s x, .s y => binS op x y
  | .sl _ xs, .nil => nilV P op t (some (Nat.blt 0 xs.length)) false
  | .mt _, .nil => nilV P op t none false
  | .nil, .nil => nilV P op t none true
  | x, y => match x.isAg && y.isAg, P.underlying t with
    | true, some (.struct fs) => match !(P.stoodInHeld t) && !(P.eqGuardType P.depth t), eqFs P fs.toList x y with
      | true, some r => (match op with | .eql => some (none, .b r) | .neq => some (none, .b (!r)) | _ => none)
      | _, _ => none
    | _, _ => none

def isNilC : Operand → Bool | .const .nilIface => true | _ => false
/-- An error against nil. -/
def nilE (P : Program) (op : BinOp) (t : TypeId) (b : Nat) : Option (Option Bool × V) :=
  match P.underlying t, op with
  | some (.interface _), .eql => some (none, .b (Nat.beq b 0))
  | some (.interface _), .neq => some (none, .b (!(Nat.beq b 0)))
  | _, _ => none

/-- A value as an interface's: small numbers of a type are told apart. -/
def ifV (P : Program) (t : TypeId) : V → Option (Option Bool × V)
  | .z => none
  | x => match P.underlying t with
    | none => none
    | some (.interface _) => none
    | some _ => match x with
      | .i .i64 n => (match decide (0 ≤ n) && decide (n < 8) with | true => some (none, .er (2 + (t * 8 + n.toNat))) | false => some (none, .er 1))
      | _ => some (none, .er 1)

def elemAt (P : Program) (e : TypeId) (ag : Bool) (d : D) (j : Nat) : Option V :=
  match ag with
  | true => match j, isA P e with | 0, true => some (.p (cks P e) d) | _, _ => none
  | false => match Nat.blt j (csz P e) with | true => some (ofK (kget (cks P e) j) (d.ecell (isA P e) j)) | false => none

def loadV (P : Program) (ob : Nat → O) (t : TypeId) (ag : Bool) : V → Option (Option Bool × V)
  | .ref n o => match ob n with
    | .box v => match ag with
      | true => match o, v.isAg, Nat.beq (csz P t) (vcount v) with
        | 0, true, true => some (none, v)
        | _, _, _ => none
      | false => match Nat.blt o (vcount v) with
        | true => match v.isAg || v.one with | true => some (none, cellOf v o) | false => none
        | false => none
    | .arr e xs => match ag, o, P.underlying t with
      | true, 0, some (.array m e') => match Nat.beq e e' && Nat.beq (csz P t) (m * csz P e) with | true => some (some (Nat.beq xs.length m), .arr e xs) | false => none
      | _, _, _ => none
    | _ => none
  | .cr e d j => match ag, Nat.beq (csz P t) (csz P e) with
    | true, false => none
    | _, _ => match elemAt P e ag d j with | some v => some (none, v) | none => none
  | .ev n g i j => match ob n with
    | .row e xs g' => match Nat.beq g g', ag, Nat.beq (csz P t) (csz P e) with
      | false, _, _ => none
      | true, true, false => none
      | true, _, _ => match elemAt P e ag (rd xs i) j with | some v => some (some (Nat.blt i xs.length), v) | none => none
    | .arr e xs => match ag, Nat.beq (csz P t) (csz P e) with
      | true, false => none
      | _, _ => match elemAt P e ag (rd xs i) j with | some v => some (some (Nat.blt i xs.length), v) | none => none
    | _ => none
  | _ => none

def inB (i : Int) (n : Nat) : Bool := decide (0 ≤ i) && decide (i < (n : Int))

def indexV (P : Program) (ob : Nat → O) (t : TypeId) (x : V) (i : Int) : Option (Option Bool × V) :=
  match P.underlying t, x with
  | some (.slice e), .sl e' xs => match Nat.beq e e' with | true => some (some (inB i xs.length), .cr e (rd xs i.toNat) 0) | false => none
  | some (.slice e), .own n g => match ob n with
    | .row e' xs g' => match Nat.beq g g' && Nat.beq e e' with | true => some (some (inB i xs.length), .ev n g i.toNat 0) | false => none
    | .fz e' xs g' => match Nat.beq g g' && Nat.beq e e' with | true => some (some (inB i xs.length), .cr e (rd xs i.toNat) 0) | false => none
    | _ => none
  | some (.array m e), .ref n 0 => match ob n with
    | .arr e' xs => match Nat.beq e e' && Nat.blt 1 m with | true => some (some (inB i m && inB i xs.length), .ev n 0 i.toNat 0) | false => none
    | _ => none
  | _, _ => none

def sliceV (P : Program) (ob : Nat → O) (t : TypeId) (x : V) (lo hi : Option V) : Option (Option Bool × V) :=
  match P.underlying t, x with
  | some .string, .s s => match lo, hi with
    | none, some (.i _ h) => some (some (decide (0 ≤ h) && decide (h ≤ (s.size : Int))), .s (s.extract 0 h.toNat))
    | some (.i _ l), none => some (some (decide (0 ≤ l) && decide (l ≤ (s.size : Int))), .s (s.extract l.toNat s.size))
    | some (.i _ l), some (.i _ h) => some (some (decide (0 ≤ l) && (decide (l ≤ h) && decide (h ≤ (s.size : Int)))), .s (s.extract l.toNat h.toNat))
    | _, _ => none
  | some (.slice e), .sl e' xs => match Nat.beq e e' && okT P e with
    | true => match lo, hi with
      | none, some (.i _ h) => some (some (decide (0 ≤ h) && decide (h ≤ (xs.length : Int))), .sl e (xs.take h.toNat))
      | some (.i _ l), none => some (some (decide (0 ≤ l) && decide (l ≤ (xs.length : Int))), .sl e (xs.drop l.toNat))
      | some (.i _ l), some (.i _ h) => some (some (decide (0 ≤ l) && (decide (l ≤ h) && decide (h ≤ (xs.length : Int)))), .sl e ((xs.take h.toNat).drop l.toNat))
      | _, _ => none
    | false => none
  | some (.slice e), .own n g => match ob n with
    | .row e' xs g' => match Nat.beq g g' && Nat.beq e e' with
      | true => match lo, hi with
        | none, some (.i _ h) => some (some (decide (0 ≤ h) && decide (h ≤ (xs.length : Int))), .vw n g 0 h.toNat)
        | some (.i _ l), none => some (some (decide (0 ≤ l) && decide (l ≤ (xs.length : Int))), .vw n g l.toNat xs.length)
        | some (.i _ l), some (.i _ h) => some (some (decide (0 ≤ l) && (decide (l ≤ h) && decide (h ≤ (xs.length : Int)))), .vw n g l.toNat h.toNat)
        | _, _ => none
      | false => none
    | _ => none
  | _, _ => none

/-- The elements of a slice, to be read. -/
def listV (ob : Nat → O) : V → Option (TypeId × List D)
  | .sl e xs => some (e, xs)
  | .mt e => some (e, [])
  | .own n g => match ob n with
    | .row e xs g' | .fz e xs g' => match Nat.beq g g' with | true => some (e, xs) | false => none
    | _ => none
  | .vw n g lo hi => match ob n with
    | .row e xs g' => match Nat.beq g g' with | true => some (e, (xs.take hi).drop lo) | false => none
    | _ => none
  | _ => none

def lenV (ob : Nat → O) : V → Option Int
  | .nil => some 0
  | v => match listV ob v with | some (_, xs) => some xs.length | none => none

def bstr (xs : List D) : ByteArray := ⟨(xs.map fun d => UInt8.ofNat d.int.toNat).toArray⟩
def ubytes (s : ByteArray) : List D := s.data.toList.map fun b => .i b.toNat

def convV (P : Program) (ob : Nat → O) (src dst : TypeId) (x : V) : Option (Option Bool × V) :=
  match P.underlying src, P.underlying dst, x with
  | some (.int _), some (.int k), .i _ n => some (none, .i k (k.wrap n))
  | some .string, some .string, .s x => some (none, .s x)
  | some (.slice e), some .string, x => match P.underlying e, x with
    | some (.int .u8), .nil => some (none, .s .empty)
    | some (.int .u8), x => match listV ob x with
      | some (e', xs) => match Nat.beq e e' with | true => some (none, .s (bstr xs)) | false => none
      | none => none
    | _, _ => none
  | _, _, _ => none

def maxV : List V → Option V
  | [.i k x, .i k' y] => match ikEq k k' with | true => some (.i k (if y > x then y else x)) | false => none
  | [.i k x, .i k' y, .i k'' u] => match ikEq k k' && ikEq k k'' with | true => some (.i k (if u > (if y > x then y else x) then u else if y > x then y else x)) | false => none
  | _ => none
def minV : List V → Option V
  | [.i k x, .i k' y] => match ikEq k k' with | true => some (.i k (if y < x then y else x)) | false => none
  | _ => none

/-- A cell's value as data; the objects that are given away with it. -/
def toC (ob : Nat → O) : K → V → Option (D × List Nat)
  | .int k, .i k' n => match ikEq k k' with | true => some (.i n, []) | false => none
  | .bool, .b x => some (.b x, [])
  | .str, .s x => some (.s x, [])
  | .sl _, .nil => some (.l [], [])
  | .sl e, .sl e' xs => match Nat.beq e e' with | true => some (.l xs, []) | false => none
  | .sl e, .own n g => match ob n with
    | .row e' xs g' => match Nat.beq e e' && Nat.beq g g' with | true => some (.l xs, [n]) | false => none
    | .fz e' xs g' => match Nat.beq e e' && Nat.beq g g' with | true => some (.l xs, []) | false => none
    | _ => none
  | _, _ => none
def toCs (ob : Nat → O) : List K → List V → Option (List D × List Nat)
  | [], [] => some ([], [])
  | k :: ks, v :: vs => match toC ob k v, toCs ob ks vs with
    | some (d, l), some (ds, m) => some (d :: ds, l ++ m)
    | _, _ => none
  | _, _ => none
/-- A value of a type as data. -/
def toT (P : Program) (ob : Nat → O) (t : TypeId) (v : V) : Option (D × List Nat) :=
  match okT P t, isA P t with
  | true, true => match v with
    | .p ks d => match ksEq ks (cks P t) with | true => some (d, []) | false => none
    | .agg vs => match toCs ob (cks P t) vs with | some (ds, l) => some (.r ds, l) | none => none
    | _ => none
  | true, false => toC ob (kindOf P t) v
  | false, _ => none

def mem (n : Nat) : List Nat → Bool
  | [] => false
  | x :: r => Nat.beq x n || mem n r
structure Eff where
  v : V
  up : List (Nat × O)
  fr : List Nat

def D.upd (n : Nat) (d : D) (j : Nat) (x : D) : D := .r ((List.range n).map fun k => cond (Nat.beq k j) x (d.cell k))

def zK : K → D
  | .int _ => .i 0
  | .bool => .b false
  | .str => .s .empty
  | .sl _ => .l []
  | .oth => .i 0
def okZ : K → Value → Bool
  | .int k, .int k' n => ikEq k k' && (n == 0)
  | .bool, .bool x => !x
  | .str, .string x => x.data.size == 0
  | .sl _, .slice none 0 0 => true
  | _, _ => false
def okZs : List K → List Value → Bool
  | [], [] => true
  | k :: ks, v :: vs => okZ k v && okZs ks vs
  | _, _ => false
/-- The zero value of a type as data, if its cells are of known kinds. -/
def zeroD (P : Program) (t : TypeId) : Option D :=
  match P.info? t with
  | some i => match i.zero with
    | some v => match okT P t && okZs (cks P t) v.cells.toList with
      | true => match isA P t, v with
        | true, .agg _ => some (.r ((cks P t).map zK))
        | true, _ => none
        | false, _ => some (zK (kindOf P t))
      | false => none
    | none => none
  | none => none
/-- The zero value of an array is that of its elements. -/
def zeroArr (P : Program) (t : TypeId) (m : Nat) (e : TypeId) : Bool :=
  match P.info? t with
  | some i => (match i.zero with | some (.agg cs) => okZs ((List.replicate m (cks P e)).flatten) cs.toList | _ => false)
  | none => false
/-- The zero value of a type in a box. -/
def zeroV (P : Program) (t : TypeId) : Option V :=
  match P.info? t with
  | some i => match i.zero, isA P t with
    | some (.agg cs), true => match cs.toList.all Value.oneCell' with | true => some (.agg (cs.toList.map cV)) | false => none
    | some (.agg _), false => none
    | some v, false => some (cV v)
    | _, _ => none
  | none => none

/-- A struct that begins as a nil pointer and a nil slice (a builder of texts). -/
def bdZ (P : Program) (t : TypeId) : Bool :=
  match P.underlying t, P.info? t with
  | some (.struct _), some i => match i.zero with
    | some (.agg cs) => match cs.toList with | [.pointer none, .slice none 0 0] => true | _ => false
    | _ => false
  | _, _ => false

def O.isNone : O → Bool | .none => true | _ => false

/-- A store into a box. -/
def storeB (P : Program) (t : TypeId) (ag : Bool) (n o : Nat) (v x : V) : Option (Option Bool × Eff) :=
  match ag with
  | false => match Nat.blt o (vcount v), x.one && Nat.beq (csz P t) 1 with
    | true, true => match v with
      | .agg vs => some (none, ⟨.z, [(n, .box (.agg (lset vs o x)))], []⟩)
      | .p ks d => some (none, ⟨.z, [(n, .box (.agg (lset (ofKs ks d 0) o x)))], []⟩)
      | v => match v.one with | true => some (none, ⟨.z, [(n, .box x)], []⟩) | false => none
    | _, _ => none
  | true => match o, x.isAg && v.isAg, Nat.beq (csz P t) (vcount v) && Nat.beq (vcount x) (vcount v) with
    | 0, true, true => some (none, ⟨.z, [(n, .box x)], []⟩)
    | _, _, _ => none
/-- A store into an array as a whole. -/
def storeA (P : Program) (t : TypeId) (ag : Bool) (n o : Nat) (e : TypeId) (xs : List D) (x : V) : Option (Option Bool × Eff) :=
  match ag, o, x with
  | true, 0, .arr e' ys => match P.underlying t with
    | some (.array m e'') => match Nat.beq e e' && (Nat.beq e' e'' && Nat.beq (csz P t) (m * csz P e)) with
      | true => some (some (Nat.beq ys.length xs.length && Nat.beq ys.length m), ⟨.z, [(n, .arr e ys)], []⟩)
      | false => none
    | _ => none
  | _, _, _ => none
/-- An element of a row behind a store: the data, and what is given away. -/
def storeE (P : Program) (ob : Nat → O) (t : TypeId) (ag : Bool) (n : Nat) (e : TypeId) (xs : List D) (i j : Nat) (x : V) : Option (D × List Nat) :=
  match ag with
  | true => match j, Nat.beq (csz P t) (csz P e), isA P e, toT P ob e x with
    | 0, true, true, some (d, l) => match mem n l with | false => some (d, l) | true => none
    | _, _, _, _ => none
  | false => match Nat.blt j (csz P e) && Nat.beq (csz P t) 1, toC ob (kget (cks P e) j) x with
    | true, some (d, l) => match mem n l with
      | false => some (match isA P e with | true => (rd xs i).upd (csz P e) j d | false => d, l)
      | true => none
    | _, _ => none

def storeV (P : Program) (ob : Nat → O) (t : TypeId) (ag : Bool) (a x : V) : Option (Option Bool × Eff) :=
  match a with
  | .ref n o => match ob n with
    | .box v => storeB P t ag n o v x
    | .arr e xs => storeA P t ag n o e xs x
    | _ => none
  | .ev n g i j => match ob n with
    | .row e xs g' => match Nat.beq g g' with
      | true => match storeE P ob t ag n e xs i j x with
        | some (d, l) => some (some (Nat.blt i xs.length), ⟨.z, [(n, .row e (xs.set i d) g')], l⟩)
        | none => none
      | false => none
    | .arr e xs => match storeE P ob t ag n e xs i j x with
      | some (d, l) => some (some (Nat.blt i xs.length), ⟨.z, [(n, .arr e (xs.set i d))], l⟩)
      | none => none
    | _ => none
  | _ => none

def lim : Nat := 1099511627776
def smallB : Nat := 4096

/-- The elements that are to be appended. -/
def elemsV (P : Program) (ob : Nat → O) (e : TypeId) : V → Option (List D)
  | .nil => some []
  | .s x => match P.underlying e with | some (.int .u8) => some (ubytes x) | _ => none
  | v => match listV ob v with
    | some (e', xs) => match Nat.beq e e' with | true => some xs | false => none
    | none => none

def appendV (P : Program) (ob : Nat → O) (d : Nat) (t : TypeId) (x y : V) : Option (Option Bool × Eff) :=
  match P.underlying t with
  | some (.slice e) => match okT P e, (zeroD P e).isSome, (match P.info? e with | some i => Nat.ble i.bytes 128 && Nat.blt 0 i.bytes | none => false), elemsV P ob e y with
    | true, true, true, some ys => match x with
      | .nil => match (ob (1024 * d)).isNone with
        | true => some (some (Nat.ble ys.length lim), ⟨.own (1024 * d) 1, [(1024 * d, .row e ys 1)], []⟩)
        | false => none
      | .own n g => match ob n with
        | .row e' xs g' => match Nat.beq e e' && Nat.beq g g' with
          | true => some (some (Nat.ble (xs.length + ys.length) lim), ⟨.own n (g' + 2), [(n, .row e (xs ++ ys) (g' + 2))], []⟩)
          | false => none
        | _ => none
      | _ => none
    | _, _, _, _ => none
  | _ => none

/-- Elements copied into a view of a slice that the call owns; as many as there are. -/
def copyV (P : Program) (ob : Nat → O) (t : TypeId) (x y : V) : Option (Option Bool × Eff) :=
  match P.underlying t with
  | some (.slice e) => match okT P e, x, elemsV P ob e y with
    | true, .vw n g lo hi, some ys => match ob n with
      | .row e' xs g' => match Nat.beq e e' && Nat.beq g g' with
        | true => some (some (Nat.ble ys.length (hi - lo)), ⟨.i .i64 ys.length, [(n, .row e (xs.take lo ++ (ys ++ xs.drop (lo + ys.length))) g')], []⟩)
        | false => none
      | _ => none
    | _, _, _ => none
  | _ => none

def opEq : Operand → Operand → Bool
  | .tmp a, .tmp b => Nat.beq a b
  | _, _ => false

def isZeroC : Operand → Bool
  | .const (.int _ n) => n == 0
  | _ => false

/-- Parts of a struct, laid over its cells. -/
def fillS (P : Program) (t : TypeId) : List (Nat × V) → List V → Option (List V)
  | [], vs => some vs
  | (f, x) :: r, vs => match fieldOff P t f, x.one with
    | some o, true => match Nat.blt o vs.length with | true => fillS P t r (lset vs o x) | false => none
    | _, _ => none
def fillE (P : Program) (ob : Nat → O) (e : TypeId) : List (Nat × V) → List D → Option (List D × List Nat)
  | [], ds => some (ds, [])
  | (i, x) :: r, ds => match toT P ob e x, Nat.blt i ds.length with
    | some (d, l), true => match fillE P ob e r (ds.set i d) with | some (ds, m) => some (ds, l ++ m) | none => none
    | _, _ => none

def sizeOkF (P : Program) (t : TypeId) (f : Nat) : Bool :=
  match P.underlying t with
  | some (.struct fs) => match fs[f]? with | some x => Nat.beq (csz P x.type) 1 | none => false
  | _ => false

/-- Keys and elements of maps: of plain kinds. -/
def inK (k : IntKind) (n : Int) : Bool := (Lit.int k n).wf
def litOf : K → V → Option (D × Bool)
  | .int k, .i k' n => match ikEq k k' with | true => some (.i n, inK k n) | false => none
  | .bool, .b x => some (.b x, true)
  | .str, .s x => some (.s x, decide (x.size ≤ maxS))
  | _, _ => none
def isPl : K → Bool
  | .int _ | .bool | .str => true
  | _ => false
def dEq : K → D → D → Bool
  | .int _, a, b => a.int == b.int
  | .bool, a, b => a.bool == b.bool
  | _, a, b => a.str.toList == b.str.toList
/-- What a map holds at a key; z where it holds nothing. -/
def mget (k : K) (x z : D) : List (D × D) → D
  | [] => z
  | (y, d) :: r => cond (dEq k x y) d (mget k x z r)
/-- Is a key there? How many are there? -/
def mhas (k : K) (x : D) : List (D × D) → Bool
  | [] => false
  | (y, _) :: r => dEq k x y || mhas k x r
def mlen (k : K) : List (D × D) → Nat
  | [] => 0
  | (y, _) :: r => cond (mhas k y r) (mlen k r) (mlen k r + 1)
def lenM (P : Program) (ob : Nat → O) : V → Option Int
  | .mp n => match ob n with
    | .mp k _ l => match isPl (kindOf P k) with | true => some (mlen (kindOf P k) l : Nat) | false => none
    | _ => none
  | _ => none
/-- The zero of a plain kind. -/
def zeroL (P : Program) (t : TypeId) : Option D :=
  match P.info? t with
  | some i => match i.zero with
    | some v => match kindOf P t, okZ (kindOf P t) v with
      | .int _, true => some (.i 0)
      | .bool, true => some (.b false)
      | .str, true => some (.s .empty)
      | _, _ => none
    | none => none
  | none => none
def lookV (P : Program) (ob : Nat → O) (t : TypeId) (m x : V) : Option (Option Bool × V) :=
  match P.underlying t, m with
  | some (.map k e), .mp n => match ob n with
    | .mp k' e' l => match Nat.beq k k' && (Nat.beq e e' && (isPl (kindOf P k) && isPl (kindOf P e))), litOf (kindOf P k) x, zeroL P e with
      | true, some (d, c), some z => some (some c, ofK (kindOf P e) (mget (kindOf P k) d z l))
      | _, _, _ => none
    | _ => none
  | _, _ => none

/-- What an operation that makes or writes no object gives: a test that must hold, and the value. -/
def pureOp (P : Program) (ob : Nat → O) (val : Operand → V) : Op → Option (Option Bool × V)
  | .move x | .assign x => some (none, val x)
  | .binOp op t x y _ => match isNilC y, val x with
    | true, .er b => nilE P op t b
    | _, _ => binV P op t (val x) (val y)
  | .unOp .not _ x => match val x with | .b x => some (none, .b (!x)) | _ => none
  | .unOp .neg _ x => match val x with | .i k n => some (none, .i k (k.wrap (0 - n))) | _ => none
  | .fieldAddr t x f => match val x, fieldOff P t f with
    | .ref n o, some q => match ob n with | .box _ => some (none, .ref n (o + q)) | _ => none
    | .ev n g i j, some q => match ob n with | .row _ _ g' => (match Nat.beq g g' with | true => some (none, .ev n g i (j + q)) | false => none) | .arr _ _ => some (none, .ev n g i (j + q)) | _ => none
    | .cr e d j, some q => some (none, .cr e d (j + q))
    | _, _ => none
  | .load t x => match P.underlying t with
    | some td => loadV P ob t (aggD td) (val x)
    | none => none
  | .indexAddr t x y => match val y with | .i _ i => indexV P ob t (val x) i | _ => none
  | .index t x y => match P.underlying t, val x, val y with
    | some .string, .s s, .i _ i => some (some (inB i s.size), .i .u8 (bt s i.toNat))
    | _, _, _ => none
  | .nilCheck x => match val x with
    | .ref n o => match ob n with | .box _ => some (none, .ref n o) | _ => none
    | .ev n g i j => match ob n with | .row _ _ g' => (match Nat.beq g g' with | true => some (none, .ev n g i j) | false => none) | .arr _ _ => some (none, .ev n g i j) | _ => none
    | .cr e d j => some (none, .cr e d j)
    | _ => none
  | .lookup t m x false => lookV P ob t (val m) (val x)
  | .extract x j => match val x with | .tup vs => (match Nat.blt j vs.length with | true => some (none, lget vs j) | false => none) | _ => none
  | .slice t x lo hi none => sliceV P ob t (val x) (lo.map val) (hi.map val)
  | .convert src dst x => convV P ob src dst (val x)
  | .build t parts => match P.underlying t with
    | some (.struct fs) => match zeroV P t, fs.toList.all (fun f => (P.info? f.type).isSome), parts.toList.all (fun p => sizeOkF P t p.1) with
      | some (.agg zs), true, true => match fillS P t (parts.toList.map fun p => (p.1, val p.2)) zs with | some vs => some (none, .agg vs) | none => none
      | _, _, _ => none
    | some (.array m e) => match zeroD P e, isA P t with
      | some z, true => match zeroArr P t m e, fillE P ob e (parts.toList.map fun p => (p.1, val p.2)) (List.replicate m z) with
        | true, some (ds, []) => some (none, .arr e ds)
        | _, _ => none
      | _, _ => none
    | _ => none
  | .makeInterface t x => ifV P t (val x)
  | .makeFunc (.func f) first captured => match captured.toList with
    | [] => some (none, .bm f (first.toList.map val))
    | _ => match first.toList with | [] => some (none, .fn f (captured.toList.map val)) | _ => none
  | .call { callee := .builtin .len, args, argTypes } => match args.toList, argTypes[0]? with
    | [x], some t => match P.underlying t with
      | some .string => match val x with | .s s => some (none, .i .i64 s.size) | _ => none
      | some (.slice _) => match lenV ob (val x) with | some n => some (none, .i .i64 n) | none => none
      | some (.map _ _) => match lenM P ob (val x) with | some n => some (none, .i .i64 n) | none => none
      | _ => none
    | _, _ => none
  | .call { callee := .builtin .max, args, .. } => match maxV (args.toList.map val) with | some v => some (none, v) | none => none
  | .call { callee := .builtin .min, args, .. } => match minV (args.toList.map val) with | some v => some (none, v) | none => none
  | _ => none

/-- A store into a map. -/
def putV (P : Program) (ob : Nat → O) (t : TypeId) (m x y : V) : Option (Option Bool × Eff) :=
  match P.underlying t, m with
  | some (.map k e), .mp n => match ob n with
    | .mp k' e' l => match Nat.beq k k' && (Nat.beq e e' && (isPl (kindOf P k) && isPl (kindOf P e))), litOf (kindOf P k) x, litOf (kindOf P e) y with
      | true, some (d, c), some (v, c') => some (some (c && (c' && Nat.blt l.length lim)), ⟨.z, [(n, .mp k e ((d, v) :: l))], []⟩)
      | _, _, _ => none
    | _ => none
  | _, _ => none

/-- What an operation that makes or writes objects gives. -/
def effOp (P : Program) (ob : Nat → O) (d : Nat) (val : Operand → V) : Op → Option (Option Bool × Eff)
  | .box t x => match (ob (1024 * d)).isNone, val x with
    | true, .arr e xs => some (none, ⟨.ref (1024 * d) 0, [(1024 * d, .arr e xs)], []⟩)
    | true, x => some (none, ⟨.ref (1024 * d) 0, [(1024 * d, .box x)], []⟩)
    | _, _ => none
  | .makeMap t none => match (ob (1024 * d)).isNone, P.underlying t with
    | true, some (.map k e) => match isPl (kindOf P k) && isPl (kindOf P e) with
      | true => some (none, ⟨.mp (1024 * d), [(1024 * d, .mp k e [])], []⟩)
      | false => none
    | _, _ => none
  | .mapUpdate t m x y => putV P ob t (val m) (val x) (val y)
  | .store t a x => match P.underlying t with
    | some td => storeV P ob t (aggD td) (val a) (val x)
    | none => none
  | .alloc t => match (ob (1024 * d)).isNone, P.underlying t with
    | true, some (.array m e) => match zeroD P e, zeroArr P t m e with
      | some z, true => some (none, ⟨.ref (1024 * d) 0, [(1024 * d, .arr e (List.replicate m z))], []⟩)
      | _, _ => none
    | true, some _ => match bdZ P t with
      | true => some (none, ⟨.ref (1024 * d) 0, [(1024 * d, .bd t .nil)], []⟩)
      | false => match zeroV P t with
        | some v => some (none, ⟨.ref (1024 * d) 0, [(1024 * d, .box v)], []⟩)
        | none => none
    | _, _ => none
  | .buildSlice t len parts => match (ob (1024 * d)).isNone, P.underlying t with
    | true, some (.slice e) => match zeroD P e, Nat.ble (len * csz P e) smallB with
      | some z, true => match fillE P ob e (parts.toList.map fun p => (p.1, val p.2)) (List.replicate len z) with
        | some (ds, l) => some (none, ⟨.own (1024 * d) 1, [(1024 * d, .row e ds 1)], l⟩)
        | none => none
      | _, _ => none
    | _, _ => none
  | .makeSlice t l c => match (ob (1024 * d)).isNone, P.underlying t with
    | true, some (.slice e) => match zeroD P e, (match P.info? e with | some i => Nat.ble i.bytes 128 | none => false) with
      | some z, true => match opEq l c, isZeroC l, val c with
        | true, _, .i _ n => some (some (decide (0 ≤ n) && decide (n ≤ (lim : Int))), ⟨.own (1024 * d) 1, [(1024 * d, .row e (List.replicate n.toNat z) 1)], []⟩)
        | false, true, .i _ n => some (some (decide (0 ≤ n) && decide (n ≤ (lim : Int))), ⟨.own (1024 * d) 1, [(1024 * d, .row e [] 1)], []⟩)
        | _, _, _ => none
      | _, _ => none
    | _, _ => none
  | .convert src dst x => match P.underlying src, P.underlying dst, val x with
    | some .string, some (.slice e), .s x => match P.underlying e, okT P e with
      | some (.int .u8), true => match (ob (1024 * d)).isNone with
        | true => some (some (decide (x.size ≤ maxS)), ⟨.own (1024 * d) 0, [(1024 * d, .row e (ubytes x) 0)], []⟩)
        | false => none
      | _, _ => none
    | some (.slice e), _, .own n g => match Nat.beq src dst with
      | true => match ob n with
        | .row e' xs g' => match P.underlying e, Nat.beq e e' && (Nat.beq g g' && od g) with
          | some (.int .u8), true => some (some (Nat.blt 0 xs.length), ⟨.own n (g + 1), [(n, .row e xs (g + 1))], []⟩)
          | _, _ => none
        | _ => none
      | false => none
    | _, _, _ => none
  | .call { callee := .builtin .append, args, argTypes } => match args.toList, argTypes.toList with
    | [x, y], [t, u] => match P.underlying u with
      | some .string | some (.slice _) => appendV P ob d t (val x) (val y)
      | _ => none
    | _, _ => none
  | .call { callee := .builtin .copy, args, argTypes } => match args.toList, argTypes.toList with
    | [x, y], [t, _] => copyV P ob t (val x) (val y)
    | _, _ => none
  | _ => none

/-- A slice's elements that are written out under a test: it is only read. -/
def litV (P : Program) (ob : Nat → O) (val : Operand → V) : Op → Option V
  | .buildSlice t len parts => match P.underlying t with
    | some (.slice e) => match zeroD P e, Nat.ble (len * csz P e) smallB with
      | some z, true => match fillE P ob e (parts.toList.map fun p => (p.1, val p.2)) (List.replicate len z) with
        | some (ds, []) => some (.sl e ds)
        | _ => none
      | _, _ => none
    | _ => none
  | _ => none

def setF {α : Type} (f : Nat → α) (d : Nat) (v : α) : Nat → α := fun j => cond (Nat.beq j d) v (f j)
def upO (ob : Nat → O) : List (Nat × O) → Nat → O
  | [] => ob
  | (n, o) :: r => upO (setF ob n o) r
/-- An object as it changes when its slice is given away. -/
def frz : O → O | .row e xs g => .fz e xs g | o => o
def frO (ob : Nat → O) : List Nat → Nat → O
  | [] => ob
  | n :: r => frO (setF ob n (frz (ob n))) r

/-- A temporary that gets a value: what hangs on its former one is forgotten. -/
def clr (ge : Nat → Option (Nat × Bool × V)) (d : Nat) : Nat → Option (Nat × Bool × V) := fun j =>
  match ge j with
  | none => none
  | some (t, b, v) => match Nat.beq j d || Nat.beq t d with | true => none | false => some (t, b, v)
/-- What hangs on a test that is forgotten is forgotten too. -/
def envC (env : Nat → V) (ge : Nat → Option (Nat × Bool × V)) (d : Nat) : Nat → V := fun j =>
  match ge j with
  | none => env j
  | some (t, _, _) => match Nat.beq t d with | true => .z | false => env j
def St.put (s : St) (dst : Option Nat) (v : V) : St :=
  match dst with
  | some d => { s with env := setF (envC s.env s.ge d) d v, ge := clr s.ge d, kn := setF s.kn d none }
  | none => s
def St.putG (s : St) (dst : Option Nat) (t : Nat) (b : Bool) (v : V) : St :=
  match dst with
  | some d => { s with env := setF (envC s.env s.ge d) d .z, ge := setF (clr s.ge d) d (some (t, b, v)), kn := setF s.kn d none }
  | none => s
def St.eff (s : St) (dst : Option Nat) (e : Eff) : St := let s' := s.put dst e.v; { s' with ob := upO (frO s.ob e.fr) e.up }

/-- The tests under which a guarded operation stands. -/
def chain (ge : Nat → Option (Nat × Bool × V)) : Nat → Nat → Bool → List (Nat × Bool)
  | 0, t, b => [(t, b)]
  | n + 1, t, b => (t, b) :: (match ge t with | some (t', b', _) => chain ge n t' b' | none => [])
def inCh : List (Nat × Bool) → Nat → Bool → Bool
  | [], _, _ => false
  | (t, b) :: r, t', b' => (Nat.beq t t' && (match b, b' with | true, true | false, false => true | _, _ => false)) || inCh r t' b'
def St.val (s : St) (g : List (Nat × Bool)) : Operand → V
  | .tmp t => match s.ge t with
    | some (j, b, v) => match inCh g j b with | true => v | false => .z
    | none => s.env t
  | .const c => cV c
  | .func f => .fn f []
  | .global _ => .z

def lit (b : Bool) (x : Bool) : Bool := match b with | true => x | false => !x
/-- When a guarded operation is done. -/
def gcond (s : St) : Nat → Nat → Bool → Option Bool
  | 0, _, _ => none
  | n + 1, t, b => match s.ge t with
    | none => match s.env t with | .b x => some (lit b x) | _ => none
    | some (t', b', .b x) => match gcond s n t' b' with | some c => some (c && lit b x) | none => none
    | _ => none

def imp (c : Option Bool) (x : Bool) : Option Bool := match c with | none => none | some c => some (!x || c)

def isTrueC : Operand → Bool | .const (.bool b) => b | _ => false
def isFalseC : Operand → Bool | .const (.bool b) => !b | _ => false
/-- 'pick': one of two values by a test. -/
def pickV (s : St) (g : List (Nat × Bool)) (c a b : Operand) : Option V :=
  match c with
  | .tmp t => match s.kn t with
    | some true => some (s.val g a)
    | some false => some (s.val g b)
    | none => match s.val g c with
      | .b x => match isTrueC a, isFalseC b with
        | true, _ => match s.val ((t, false) :: g) b with | .b y => some (.b (x || y)) | _ => none
        | false, true => match s.val ((t, true) :: g) a with | .b y => some (.b (x && y)) | _ => none
        | _, _ => none
      | _ => none
  | _ => none

/-- A function that is called: its arguments as they come, and what it gives. -/
structure Entry (R : Type) where
  f : FuncId
  run : (Nat → O) → Nat → List V → (Eff → Option R) → Option R
  runG : Bool → (Nat → O) → Nat → List V → (V → Option R) → Option R
  arm : Bool

def findE {R : Type} : List (Entry R) → FuncId → Option (Entry R)
  | [], _ => none
  | e :: es, f => match Nat.beq e.f f with | true => some e | false => findE es f

/-- The function that is called, with what it takes ahead of the arguments and behind them. -/
def findV {R : Type} (es : List (Entry R)) : V → Option (Entry R × List V × List V)
  | .fn f cs => match findE es f with | some e => some (e, [], cs) | none => none
  | .bm f fs => match findE es f with | some e => some (e, fs, []) | none => none
  | _ => none

def knG (s : St) (t : Nat) : List (Nat × Bool) := match s.kn t with | some b => [(t, b)] | none => []
/-- The tests that are known to hold. -/
def knL (s : St) : List Oper → List (Nat × Bool)
  | [] => []
  | o :: r => match o.dst with | some d => knG s d ++ knL s r | none => knL s r

/-- An operation that is done. -/
def opC {R : Type} (P : Program) (ρ : List (Entry R)) (ops : List Oper) (s : St) (o : Oper) (kk : St → Option R) : Option R :=
  let val := s.val (knL s ops)
  match o.op with
  | .pick c a b => match pickV s (knL s ops) c a b with | some v => kk (s.put o.dst v) | none => .none
  | .call { callee := .value x, args, .. } => match findV ρ (val x) with
    | some (e, fs, cs) => e.run s.ob (o.dst.getD 0) (fs ++ (args.toList.map val ++ cs)) fun ef => kk (s.eff o.dst ef)
    | none => .none
  | op => match pureOp P s.ob val op with
    | some (c, v) => gdo c (kk (s.put o.dst v))
    | none => match effOp P s.ob (o.dst.getD 0) val op with
      | some (c, ef) => gdo c (kk (s.eff o.dst ef))
      | none => .none

def bEq : Bool → Bool → Bool | true, b => b | false, b => !b

def regC {R : Type} (P : Program) (ρ : List (Entry R)) (ops : List Oper) : List Oper → St → (St → Option R) → Option R
  | [], s, kk => kk { s with env := fun j => (match s.ge j with | none => s.env j | some _ => .z), ge := fun _ => none, kn := fun _ => none }
  | o :: r, s, kk =>
    match o.guard with
    | none => opC P ρ ops s o fun s => regC P ρ ops r s kk
    | some (j, want) =>
      match (ops[j]?).bind (·.dst) with
      | none => .none
      | some tj => match (match o.dst with | some d => Nat.beq tj d | none => false) with
       | true => .none
       | false => match s.kn tj with
        | some b => match bEq b want with
          | true => opC P ρ ops s o fun s => regC P ρ ops r s kk
          | false => regC P ρ ops r (s.put o.dst .z) kk
        | none => match gcond s 3 tj want with
          | none => .none
          | some x =>
            let g := chain s.ge 3 tj want ++ knL s ops
            match o.op with
            | .pick c a b => match pickV s g c a b with | some v => regC P ρ ops r (s.putG o.dst tj want v) kk | none => .none
            | .call { callee := .value xf, args, .. } => match findV ρ (s.val g xf) with
              | some (e, fs, cs) => match e.arm with
                | false => e.runG x s.ob (o.dst.getD 0) (fs ++ (args.toList.map (s.val g) ++ cs)) fun v => regC P ρ ops r (s.putG o.dst tj want v) kk
                | true => (match s.ge tj, s.env tj with
                  | none, .b y => bif y then (match want with
                      | true => opC P ρ ops { s with kn := setF s.kn tj (some true) } o fun s => regC P ρ ops r s kk
                      | false => regC P ρ ops r ({ s with kn := setF s.kn tj (some true) }.put o.dst .z) kk)
                    else (match want with
                      | true => regC P ρ ops r ({ s with kn := setF s.kn tj (some false) }.put o.dst .z) kk
                      | false => opC P ρ ops { s with kn := setF s.kn tj (some false) } o fun s => regC P ρ ops r s kk)
                  | _, _ => .none)
              | none => .none
            | op => match pureOp P s.ob (s.val g) op with
              | some (c, v) => gdo (imp c x) (regC P ρ ops r (s.putG o.dst tj want v) kk)
              | none => match litV P s.ob (s.val g) op with
                | some v => regC P ρ ops r (s.putG o.dst tj want v) kk
                | none => match s.ge tj, s.env tj with
                  | none, .b y => bif y then (match want with
                      | true => opC P ρ ops { s with kn := setF s.kn tj (some true) } o fun s => regC P ρ ops r s kk
                      | false => regC P ρ ops r ({ s with kn := setF s.kn tj (some true) }.put o.dst .z) kk)
                    else (match want with
                      | true => regC P ρ ops r ({ s with kn := setF s.kn tj (some false) }.put o.dst .z) kk
                      | false => opC P ρ ops { s with kn := setF s.kn tj (some false) } o fun s => regC P ρ ops r s kk)
                  | _, _ => .none

/-! ### Regions whose order is drawn -/
def bindB (e : Edge) : Bool := match e.ground with | .textOnly _ | .gcOnly _ => false | _ => true
def ngetL : List Nat → Nat → Nat
  | [], _ => 0
  | x :: _, 0 => x
  | _ :: r, n + 1 => ngetL r n
/-- What an operation stands behind, as a number's bits. -/
def depM (D : List Nat) : List Edge → Nat
  | [] => 0
  | e :: r => match bindB e with | true => Nat.lor (Nat.lor (Nat.pow 2 e.on) (ngetL D e.on)) (depM D r) | false => depM D r
def cloM : List Nat → List Oper → List Nat
  | D, [] => D
  | D, o :: r => cloM (D ++ [depM D o.after.toList]) r
def nilA (args : Array Operand) : Bool := match args.toList with | .const (.slice none _ _) :: _ => true | _ => false
/-- 0: reads no object; 1: reads, or makes objects of its own; 2: reads; 3: writes. -/
def cls : Op → Nat
  | .move _ | .assign _ | .binOp .. | .unOp .. | .pick .. | .extract .. => 0
  | .store .. | .mapUpdate .. => 3
  | .call { callee := .builtin .append, args, .. } => match nilA args with | true => 1 | false => 3
  | .call { callee := .builtin .copy, .. } => 3
  | .convert s t _ => match Nat.beq s t with | true => 3 | false => 1
  | .lookup .. | .load .. | .fieldAddr .. | .indexAddr .. | .index .. | .slice .. | .nilCheck .. | .call { callee := .builtin .len, .. } => 2
  | _ => 1
def hidL (Di i : Nat) : Nat → List Oper → List Nat
  | _, [] => []
  | k, o :: r => match o.dst, Nat.beq (cls o.op) 1 && (!(Nat.beq k i) && !(Nat.testBit Di k)) with
    | some d, true => d :: hidL Di i (k + 1) r
    | _, _ => hidL Di i (k + 1) r
/-- Some operation of a class stands apart from this one. -/
def apartC (c Di i : Nat) (D : List Nat) : Nat → List Oper → Bool
  | _, [] => false
  | k, o :: r => (Nat.beq (cls o.op) c && (!(Nat.testBit Di k) && !(Nat.testBit (ngetL D k) i))) || apartC c Di i D (k + 1) r
/-- Every other operation stands before this one or behind it. -/
def alone (Di i : Nat) (D : List Nat) : Nat → List Oper → Bool
  | _, [] => true
  | k, _ :: r => (Nat.beq k i || (Nat.testBit Di k || Nat.testBit (ngetL D k) i)) && alone Di i D (k + 1) r
/-- What an operation does not see: objects that others make; rows, if others write them. (al: it has its place in any order.) -/
structure Hd where
  l : List Nat
  fl : Bool
  al : Bool
def hdOf (D : List Nat) (i : Nat) (o : Oper) (ops : List Oper) : Hd :=
  ⟨hidL (ngetL D i) i 0 ops, (Nat.beq (cls o.op) 2 && apartC 3 (ngetL D i) i D 0 ops) || (Nat.beq (cls o.op) 3 && apartC 2 (ngetL D i) i D 0 ops), alone (ngetL D i) i D 0 ops⟩
def noRow : O → O | .row .. | .fz .. | .mp .. => .none | o => o
def hide (hid : Hd) (ob : Nat → O) : Nat → O := fun n => cond (mem (n / 1024) hid.l) .none (cond hid.fl (noRow (ob n)) (ob n))
def rowsOnly (ob : Nat → O) (ef : Eff) : Bool := ef.up.all fun p => (noRow p.2).isNone && (noRow (ob p.1)).isNone
def okE (d : Nat) (ef : Eff) : Bool := ef.fr.isEmpty && ef.up.all fun p => Nat.beq (p.1 / 1024) d

inductive Oc where
  | v (v : V) | g (t : Nat) (b : Bool) (v : V) | e (ef : Eff)
def St.app (s : St) (dst : Option Nat) : Oc → St
  | .v v => s.put dst v
  | .g t b v => s.putG dst t b v
  | .e ef => s.eff dst ef

def outD {R : Type} (P : Program) (ρ : List (Entry R)) (ops : Array Oper) (hid : Hd) (o : Oper) (s : St) (k : Oc → Option R) : Option R :=
  match o.guard with
  | none => match o.op with
    | .pick c a b => match pickV s [] c a b with | some v => k (.v v) | none => .none
    | .call { callee := .value xf, args, .. } => match hid.al with
      | true => match findV ρ (s.val [] xf) with
        | some (e, fs, cs) => e.run s.ob (o.dst.getD 0) (fs ++ (args.toList.map (s.val []) ++ cs)) fun ef => k (.e ef)
        | none => .none
      | false => match findV ρ (s.val [] xf), o.dst with
        | some (e, fs, cs), some d => match mem d hid.l || hid.fl with
          | false => e.run (hide hid s.ob) d (fs ++ (args.toList.map (s.val []) ++ cs)) fun ef => match okE d ef with | true => k (.e ef) | false => .none
          | true => .none
        | _, _ => .none
    | op => match Nat.beq (cls op) 3 with
      | true => match effOp P s.ob (o.dst.getD 0) (s.val []) op with | some (c, ef) => (match !hid.fl || rowsOnly s.ob ef with | true => gdo c (k (.e ef)) | false => .none) | none => .none
      | false => match pureOp P (hide hid s.ob) (s.val []) op with
        | some (c, v) => gdo c (k (.v v))
        | none => match o.dst with
          | some d => match Nat.beq (cls op) 1 && !(mem d hid.l || hid.fl) with
            | true => match effOp P (hide hid s.ob) d (s.val []) op with
              | some (c, ef) => (match okE d ef with | true => gdo c (k (.e ef)) | false => .none)
              | none => .none
            | false => .none
          | none => .none
  | some (j, want) => match (ops.toList[j]?).bind (·.dst) with
    | none => .none
    | some tj => match (match o.dst with | some d => Nat.beq tj d | none => false) with
      | true => .none
      | false => match gcond s 3 tj want with
        | none => .none
        | some x => match o.op with
          | .pick c a b => match pickV s (chain s.ge 3 tj want) c a b with | some v => k (.g tj want v) | none => .none
          | .call { callee := .value xf, args, .. } => match findV ρ (s.val (chain s.ge 3 tj want) xf) with
            | some (e, fs, cs) => e.runG x (hide hid s.ob) (o.dst.getD 0) (fs ++ (args.toList.map (s.val (chain s.ge 3 tj want)) ++ cs)) fun v => k (.g tj want v)
            | none => .none
          | op => match pureOp P (hide hid s.ob) (s.val (chain s.ge 3 tj want)) op with
            | some (c, v) => gdo (imp c x) (k (.g tj want v))
            | none => match Nat.beq (cls op) 3 with
              | true => match effOp P s.ob (o.dst.getD 0) (s.val (chain s.ge 3 tj want)) op with
                | some (c, ef) => (match !hid.fl || rowsOnly s.ob ef with | true => (bif x then gdo c (k (.e ef)) else k (.v .z)) | false => .none)
                | none => bif x then .none else k (.v .z)
              | false => match o.dst with
                | some d => match Nat.beq (cls op) 1 && !(mem d hid.l || hid.fl) with
                  | true => match effOp P (hide hid s.ob) d (s.val (chain s.ge 3 tj want)) op with
                    | some (c, ef) => (match okE d ef with | true => (bif x then gdo c (k (.e ef)) else k (.v .z)) | false => bif x then .none else k (.v .z))
                    | none => bif x then .none else k (.v .z)
                  | false => bif x then .none else k (.v .z)
                | none => bif x then .none else k (.v .z)

def St.clear (s : St) : St := { s with env := fun j => (match s.ge j with | none => s.env j | some _ => .z), ge := fun _ => none, kn := fun _ => none }

def regD {R : Type} (P : Program) (ρ : List (Entry R)) (ops : Array Oper) (D : List Nat) : List Nat → St → (St → Option R) → Option R
  | [], s, kk => kk s.clear
  | i :: r, s, kk => match ops.toList[i]? with
    | some o => outD P ρ ops (hdOf D i o ops.toList) o s fun oc => regD P ρ ops D r (s.app o.dst oc) kk
    | none => .none

/-- Two operations, of which neither stands behind the other, may change places. -/
def compat (ops : Array Oper) (x y : Oper) : Bool :=
  x.apart ops y && ((!(Nat.beq (cls x.op) 3) || (Nat.beq (cls y.op) 0 || Nat.beq (cls y.op) 2)) && (!(Nat.beq (cls y.op) 3) || (Nat.beq (cls x.op) 0 || Nat.beq (cls x.op) 2)))
def disD (x y : Oper) : Bool := match x.dst, y.dst with | some a, some b => !(Nat.beq a b) | _, _ => true
def okPair (ops : Array Oper) (Di : Nat) (o : Oper) : Nat → List Oper → Bool
  | _, [] => true
  | k, x :: r => disD x o && ((Nat.testBit Di k || compat ops x o) && okPair ops Di o (k + 1) r)
def okOps (ops : Array Oper) (D : List Nat) : Nat → List Oper → List Oper → Bool
  | _, _, [] => true
  | i, pre, o :: r => Nat.beq (ngetL D i) (depM D o.after.toList) && ((o.after.toList.all fun e => !(bindB e) || Nat.blt e.on i) &&
      ((match o.guard with | some (j, _) => Nat.testBit (ngetL D i) j | none => true) && (okPair ops (ngetL D i) o 0 pre && okOps ops D (i + 1) (pre ++ [o]) r)))
def okReg (ops : Array Oper) : Bool := okOps ops (cloM [] ops.toList) 0 [] ops.toList

def drawC {R : Type} (P : Program) (ρ : List (Entry R)) (ops : Array Oper) (s : St) (kk : St → Option R) : Option R :=
  match P.follows .mixedOrders && okReg ops with
  | true => regD P ρ ops (cloM [] ops.toList) (List.range ops.size) s.clear kk
  | false => .none

inductive Ex where
  | normal | exit (id : Nat)

/-- Pieces of code that are told by functions of their own. -/
abbrev Cuts (R : Type) := Nat → Option (St → (Ex → St → Option R) → Option R)

def codeC {R : Type} (P : Program) (ρ : List (Entry R)) (Λ : Cuts R) (kr : St → Option R) : Code → Nat → St → (Ex → St → Option R) → Option R
  | .skip, _, s, kk => kk .normal s
  | .region _ ops draw, p, s, kk => match Λ p with
    | some G => G s kk
    | none => match draw with
      | false => regC P ρ ops.toList ops.toList s (kk .normal)
      | true => drawC P ρ ops s (kk .normal)
  | .seq a b, p, s, kk => match Λ p with
    | some G => G s kk
    | none => codeC P ρ Λ kr a (2 * p) s fun e s' => match e with
      | .normal => codeC P ρ Λ kr b (2 * p + 1) s' kk
      | .exit i => kk (.exit i) s'
  | .cond c t e, p, s, kk => match Λ p with
    | some G => G s kk
    | none => match s.val [] c with
      | .b x => bif x then codeC P ρ Λ kr t (2 * p) s kk else codeC P ρ Λ kr e (2 * p + 1) s kk
      | _ => .none
  | .block id b, p, s, kk => match Λ p with
    | some G => G s kk
    | none => codeC P ρ Λ kr b (2 * p) s fun e s' => match e with
      | .exit i => match Nat.beq i id with | true => kk .normal s' | false => kk (.exit i) s'
      | .normal => kk .normal s'
  | .loop _, p, s, kk => match Λ p with
    | some G => G s kk
    | none => .none
  | .exit id, _, s, kk => kk (.exit id) s
  | .ret, _, s, _ => kr s
  | _, _, _, _ => .none

end Go.Pv

namespace Go.Pv
variable {P : Program}

/-- How an object may change under the handles to it. -/
def ChO (P : Program) (G G' : Gh) (w' : World) (n : Nat) : O → O → Prop
  | .none, _ => True
  | _, .dead => True
  | .box _, .box _ => G'.η n = G.η n
  | .row e xs g, .row e' xs' g' => e = e' ∧ (g < g' ∨ (g = g' ∧ xs'.length = xs.length ∧ G'.η n = G.η n))
  | .row e xs g, .fz e' xs' g' => e = e' ∧ xs = xs' ∧ g = g' ∧ RepC P w' G'.ok (.sl e) (G.η n) (.l xs) ∧ ∀ lo hi v, lo ≤ hi → hi ≤ xs.length → RepV P e lo hi (G.η n) v → RepC P w' G'.ok (.sl e) v (.l ((xs.take hi).drop lo))
  | .fz e xs g, .fz e' xs' g' => e = e' ∧ xs = xs' ∧ g = g'
  | .arr e _, .arr e' _ => e = e' ∧ G'.η n = G.η n
  | .mp k e _, .mp k' e' _ => k = k' ∧ e = e' ∧ G'.η n = G.η n
  | .bd t _, .bd t' _ => t = t' ∧ G'.η n = G.η n
  | _, _ => False

structure Mo (P : Program) (G : Gh) (ob : Nat → O) (w : World) (G' : Gh) (ob' : Nat → O) (w' : World) : Prop where
  ok : ∀ b, G.ok b → G'.ok b ∧ w'.heap[b]? = w.heap[b]?
  ob : ∀ n, ChO P G G' w' n (ob n) (ob' n)

variable {G G' : Gh} {ob ob' : Nat → O} {w w' : World}

mutual
theorem RelV.mono (m : Mo P G ob w G' ob' w') : ∀ (x : V) (v : Value), RelV P G ob w x v → RelV P G' ob' w' x v
  | .z, v, h => by simp only [RelV]
  | .i _ _, v, h => by simpa only [RelV] using h
  | .b _, v, h => by simpa only [RelV] using h
  | .s _, v, h => by simpa only [RelV] using h
  | .nil, v, h => by simpa only [RelV] using h
  | .sl _ _, v, h => by simp only [RelV] at h ⊢; exact h.mono m.ok
  | .p _ _, v, h => by
    simp only [RelV] at h ⊢
    obtain ⟨cs, hv, hs, hd, hc⟩ := h
    exact ⟨cs, hv, hs, hd, hc.mono m.ok⟩
  | .arr _ _, v, h => by
    simp only [RelV] at h ⊢
    obtain ⟨cs, hv, hs, hd, hc⟩ := h
    exact ⟨cs, hv, hs, hd, hc.mono m.ok⟩
  | .agg vs, v, h => by
    simp only [RelV] at h ⊢
    obtain ⟨cs, hv, h1, hc⟩ := h
    exact ⟨cs, hv, h1, RelVs.mono m vs cs.toList hc⟩
  | .tup vs, v, h => by
    simp only [RelV] at h ⊢
    obtain ⟨cs, hv, hc⟩ := h
    exact ⟨cs, hv, RelVs.mono m vs cs.toList hc⟩
  | .fn f vs, v, h => by
    simp only [RelV] at h ⊢
    obtain ⟨cs, hv, hc⟩ := h
    exact ⟨cs, hv, RelVs.mono m vs cs.toList hc⟩
  | .ref n o, v, h => by
    have c := m.ob n
    simp only [RelV] at h ⊢
    refine ⟨h.1, ?_⟩
    replace h := h.2
    cases h1 : ob n <;> cases h2 : ob' n <;> simp only [h1, h2, ChO] at h c ⊢
    · rw [c]; exact h
    · rw [c.2]; exact h
    · rw [c.2]; exact h
  | .ev n g i j, v, h => by
    have c := m.ob n
    simp only [RelV] at h ⊢
    refine ⟨h.1, ?_⟩
    replace h := h.2
    cases h1 : ob n <;> cases h2 : ob' n <;> simp only [h1, h2, ChO] at h c ⊢
    · obtain ⟨rfl, c⟩ := c
      rcases c with c | ⟨c1, -, c2⟩
      · exact ⟨by omega, fun e => by omega⟩
      · subst c1; rw [c2]; exact h
    · obtain ⟨rfl, c⟩ := c
      rw [c]; exact h
  | .bm f vs, v, h => by
    simp only [RelV] at h ⊢
    obtain ⟨cs, hv, hc⟩ := h
    exact ⟨cs, hv, RelVs.mono m vs cs.toList hc⟩
  | .er _, v, h => by simpa only [RelV] using h
  | .cr e d j, v, h => by
    simp only [RelV] at h ⊢
    obtain ⟨b, off, cs, el, fz, hv, hok, hb, hT, hs, hr⟩ := h
    have := m.ok b hok
    exact ⟨b, off, cs, el, fz, hv, this.1, this.2.trans hb, hT, hs, fun j hj => let ⟨u, hu, r⟩ := hr j hj; ⟨u, hu, r.mono m.ok⟩⟩
  | .own n g, v, h => by
    have c := m.ob n
    simp only [RelV] at h ⊢
    refine ⟨h.1, ?_⟩
    replace h := h.2
    cases h1 : ob n <;> cases h2 : ob' n <;> simp only [h1, h2, ChO] at h c ⊢
    · obtain ⟨rfl, c⟩ := c
      rcases c with c | ⟨c1, c3, c2⟩
      · exact ⟨by omega, fun e => by omega⟩
      · subst c1; rw [c2]; exact h
    · obtain ⟨rfl, rfl, rfl, c, -⟩ := c
      exact fun e => by rw [h.2 e]; exact c
    · obtain ⟨rfl, rfl, rfl⟩ := c
      exact fun e => (h e).mono m.ok
  | .vw n g lo hi, v, h => by
    have c := m.ob n
    simp only [RelV] at h ⊢
    refine ⟨h.1, ?_⟩
    replace h := h.2
    cases h1 : ob n <;> cases h2 : ob' n <;> simp only [h1, h2, ChO] at h c ⊢
    · obtain ⟨rfl, c⟩ := c
      rcases c with c | ⟨c1, c3, c2⟩
      · exact ⟨by omega, fun e => by omega⟩
      · subst c1; rw [c2, c3]; exact h
    · obtain ⟨rfl, rfl, rfl, -, c⟩ := c
      exact fun e => by obtain ⟨h1, h2, h3⟩ := h.2 e; exact c _ _ _ h1 h2 h3
    · obtain ⟨rfl, rfl, rfl⟩ := c
      exact fun e => (h e).mono m.ok
  | .mt e, v, h => by simpa only [RelV] using h
  | .mp n, v, h => by
    have c := m.ob n
    simp only [RelV] at h ⊢
    refine ⟨h.1, ?_⟩
    replace h := h.2
    cases h1 : ob n <;> cases h2 : ob' n <;> simp only [h1, h2, ChO] at h c ⊢
    rw [c.2.2]; exact h
theorem RelVs.mono (m : Mo P G ob w G' ob' w') : ∀ (xs : List V) (vs : List Value), RelVs P G ob w xs vs → RelVs P G' ob' w' xs vs
  | [], [], h => by simp only [RelVs]
  | x :: xs, v :: vs, h => by simp only [RelVs] at h ⊢; exact ⟨RelV.mono m x v h.1, RelVs.mono m xs vs h.2⟩
  | [], _ :: _, h => by simp only [RelVs] at h
  | _ :: _, [], h => by simp only [RelVs] at h
end

theorem Mo.refl : Mo P G ob w G ob w :=
  ⟨fun b h => ⟨h, rfl⟩, fun n => by
    cases ob n <;> simp only [ChO]
    · exact ⟨trivial, .inr ⟨trivial, trivial, trivial⟩⟩
    · exact ⟨trivial, trivial, trivial⟩
    · exact ⟨trivial, trivial⟩
    · exact ⟨trivial, trivial, trivial⟩
    · exact ⟨trivial, trivial⟩⟩

end Go.Pv

namespace Go.Pv
variable {P : Program} {G : Gh} {ob : Nat → O} {w : World}

theorem beq_eq {a b : Nat} (h : Nat.beq a b = true) : a = b := Nat.eq_of_beq_eq_true h
theorem blt_lt {a b : Nat} (h : Nat.blt a b = true) : a < b := Nat.lt_of_succ_le (by simpa [Nat.blt] using h)
theorem ikEq_eq {a b : IntKind} (h : ikEq a b = true) : a = b := by cases a <;> cases b <;> first | rfl | cases h
theorem kEq_eq {a b : K} (h : kEq a b = true) : a = b := by
  cases a <;> cases b <;> simp only [kEq] at h <;> first | rfl | cases h | exact congrArg _ (ikEq_eq h) | exact congrArg _ (beq_eq h)
theorem ksEq_eq : ∀ {a b : List K}, ksEq a b = true → a = b
  | [], [], _ => rfl
  | [], _ :: _, h => by cases h
  | _ :: _, [], h => by cases h
  | x :: xs, y :: ys, h => by
    simp only [ksEq, Bool.and_eq_true] at h
    rw [kEq_eq h.1, ksEq_eq h.2]

theorem und_info {t : TypeId} {d : TypeDesc} (h : P.underlying t = some d) : ∃ i, P.info? t = some i := by
  unfold Program.underlying at h
  cases hi : P.info? t with
  | none => rw [hi] at h; cases h
  | some i => exact ⟨i, rfl⟩

theorem csz_info {t : TypeId} {i : TypeInfo} (h : P.info? t = some i) : csz P t = i.size := by simp [csz, h]

theorem run_sizeOf' {t : TypeId} {i : TypeInfo} (h : P.info? t = some i) (w : World) : (sizeOf t).run P w = .ok i.size w := by
  simp [sizeOf, typeInfo, h]

theorem relV_cV (c : Value) : RelV P G ob w (cV c) c := by
  unfold cV
  split <;> simp only [RelV]
  exact ⟨fun _ => trivial, fun h => by omega, fun h => by omega⟩

theorem relV_ofK {k : K} {v : Value} {d : D} (h : RepC P w G.ok k v d) : RelV P G ob w (ofK k d) v := by
  cases k <;> simp only [ofK, RelV]
  · cases h; rfl
  · cases h; rfl
  · cases h; rfl
  · have := h.list; rw [← this]; exact h

theorem relVs_get : ∀ {vs : List V} {cs : List Value} {j : Nat}, RelVs P G ob w vs cs → j < vs.length → ∃ u, cs[j]? = some u ∧ RelV P G ob w (lget vs j) u
  | [], _, _, _, hj => by simp at hj
  | x :: xs, [], _, h, _ => by simp only [RelVs] at h
  | x :: xs, v :: cs, 0, h, _ => by simp only [RelVs] at h; exact ⟨v, rfl, h.1⟩
  | x :: xs, v :: cs, j + 1, h, hj => by
    simp only [RelVs] at h
    obtain ⟨u, hu, r⟩ := relVs_get h.2 (by simpa using hj)
    exact ⟨u, by simpa using hu, r⟩
theorem relVs_len : ∀ {vs : List V} {cs : List Value}, RelVs P G ob w vs cs → cs.length = vs.length
  | [], [], _ => rfl
  | [], _ :: _, h => by simp only [RelVs] at h
  | x :: xs, [], h => by simp only [RelVs] at h
  | x :: xs, v :: cs, h => by simp only [RelVs] at h; simp [relVs_len h.2]

theorem run_binI {op : BinOp} {k : IntKind} {a b : Int} {c : Option Bool} {v : V} (h : binI op k a b = some (c, v)) (hc : ∀ x, c = some x → x = true) (t : TypeId) (x y : Operand) :
    ∃ u, (do eqGuard op t x y (.int k a) (.int k b); binOp op t (.int k a) (.int k b) : Sem Value).run P w = .ok u w ∧ RelV P G ob w v u := by
  have hg : eqGuard op t x y (.int k a) (.int k b) = pure () := by unfold eqGuard; split <;> rfl
  rw [hg]
  cases op <;> simp only [binI] at h <;> first | (cases h; done) | skip
  all_goals
    obtain ⟨rfl, rfl⟩ := Prod.mk.inj (Option.some.inj h)
    simp only [RelV]
  all_goals first
    | (simp [binOp, Op.intArith]; done)
    | (simp [binOp, Op.intCmp]; done)
    | (have h0 : b ≠ 0 := by simpa using hc _ rfl
       simp [binOp, Op.intDiv, h0]; done)
    | (have h0 : ¬ b < 0 := by have := hc _ rfl; simp at this; omega
       simp [binOp, Op.shift, h0]; done)
    | (simp [binOp, Op.intBits]; done)

theorem run_binS {op : BinOp} {a b : ByteArray} {c : Option Bool} {v : V} (h : binS op a b = some (c, v)) (hc : ∀ x, c = some x → x = true) (t : TypeId) (x y : Operand) :
    ∃ u, (do eqGuard op t x y (.string a) (.string b); binOp op t (.string a) (.string b) : Sem Value).run P w = .ok u w ∧ RelV P G ob w v u := by
  have hg : eqGuard op t x y (.string a) (.string b) = pure () := by unfold eqGuard; split <;> rfl
  rw [hg]
  cases op <;> simp only [binS] at h <;> first | (cases h; done) | skip
  all_goals
    obtain ⟨rfl, rfl⟩ := Prod.mk.inj (Option.some.inj h)
    simp only [RelV]
  · have hs : a.size + b.size ≤ maxS := by simpa using hc _ rfl
    have : ¬ ((a.size + b.size : Nat) : Int) > IntKind.i64.max := by
      have : IntKind.i64.max = 9223372036854775807 := by decide
      unfold maxS at hs
      omega
    refine ⟨.string (a ++ b), ?_, rfl⟩
    simp only [binOp, Op.stringOp, if_neg this]
    rfl
  · exact ⟨_, rfl, rfl⟩
  · exact ⟨_, rfl, rfl⟩

theorem run_eqBool {t : TypeId} (hu : P.underlying t = some .bool) (a b : Bool) (w : World) (d : Nat) : (Op.equalIn (d + 1) t (.bool a) (.bool b)).run P w = .ok (a == b) w := by
  simp [Op.equalIn, run_underlying hu]

end Go.Pv

namespace Go.Pv
variable {P : Program} {G : Gh} {ob : Nat → O} {w : World}

theorem run_isAgg' {t : TypeId} {d : TypeDesc} (hu : P.underlying t = some d) (w : World) : (isAgg t).run P w = .ok (aggD d) w := by
  unfold isAgg aggD
  simp only [Sem.run_bind, run_underlying hu, Result.andThen_ok]
  cases d <;> rfl

theorem isA_eq {t : TypeId} {d : TypeDesc} (hu : P.underlying t = some d) : isA P t = aggD d := by simp [isA, hu]

theorem okT_len {e : TypeId} (h : okT P e = true) : (cks P e).length = csz P e ∧ 0 < csz P e ∧ (isA P e = false → csz P e = 1) := by
  unfold okT at h
  simp only [Bool.and_eq_true, Bool.or_eq_true] at h
  exact ⟨beq_eq h.1.1.2, blt_lt h.1.2, fun e => by rcases h.2 with h | h; exact absurd h (by simp [e]); exact beq_eq h⟩

/-- Cells in memory read as an element's. -/
structure At (P : Program) (G : Gh) (w : World) (e : TypeId) (b o : Nat) (d : D) : Prop where
  okT : okT P e = true
  shape : isA P e = true → ∃ ds, d = .r ds ∧ ds.length = csz P e
  cell : ∀ j, j < csz P e → ∃ v, w.cell? ⟨b, o + j, none⟩ = some v ∧ RepC P w G.ok (kget (cks P e) j) v (d.ecell (isA P e) j)

theorem run_load_cell {a : Addr} {v : Value} (h : w.cell? a = some v) : (load a).run P w = .ok v w := by simp [h]

theorem add_addr (b o j : Nat) : (⟨b, o, none⟩ : Addr).add j = ⟨b, o + j, none⟩ := by
  unfold Addr.add
  split
  · rename_i h; simp [h]
  · rfl

theorem run_elem {t e : TypeId} {td : TypeDesc} {b o j : Nat} {d : D} {v : V} (hu : P.underlying t = some td) (hs : aggD td = true → csz P t = csz P e) (h : At P G w e b o d)
    (he : elemAt P e (aggD td) d j = some v) : ∃ u, (loadVar t ⟨b, o + j, none⟩).run P w = .ok u w ∧ RelV P G ob w v u := by
  obtain ⟨i, hi⟩ := und_info hu
  have hl := okT_len h.okT
  unfold elemAt at he
  cases ha : aggD td with
  | true =>
    rw [ha] at he
    simp only [] at he
    split at he
    · rename_i hA
      obtain rfl := Option.some.inj he
      have hsz : csz P e = i.size := by rw [← hs ha]; exact csz_info hi
      have hget : ∀ j, ∃ v, j < csz P e → (w.cell? ⟨b, o + j, none⟩ = some v ∧ RepC P w G.ok (kget (cks P e) j) v (d.ecell (isA P e) j)) := fun j => by
        by_cases hj : j < csz P e
        · obtain ⟨v, hv⟩ := h.cell j hj
          exact ⟨v, fun _ => hv⟩
        · exact ⟨undef, fun h => absurd h hj⟩
      let f : Nat → Value := fun j => Classical.choose (hget j)
      have hf : ∀ j, j < csz P e → w.cell? ⟨b, o + j, none⟩ = some (f j) ∧ RepC P w G.ok (kget (cks P e) j) (f j) (d.ecell (isA P e) j) := fun j => Classical.choose_spec (hget j)
      have hr := run_loadCells_list (P := P) w ⟨b, o + 0, none⟩ ((List.range (csz P e)).map f) (fun j v hv => by
        have hj : j < csz P e := by
          by_cases hj : j < csz P e
          · exact hj
          · rw [List.getElem?_eq_none (by simpa using hj)] at hv; cases hv
        rw [add_addr]
        have : v = f j := by simpa [hj] using hv.symm
        rw [this]
        exact (hf j hj).1)
      refine ⟨.agg ((List.range (csz P e)).map f).toArray, ?_, ?_⟩
      · have hr' : (loadCells ⟨b, o + 0, none⟩ i.size).run P w = .ok ((List.range (csz P e)).map f).toArray w := by
          have : ((List.range (csz P e)).map f).length = i.size := by simp [hsz]
          rw [← this]; exact hr
        simp only [loadVar, Sem.run_bind, run_isAgg' hu, ha, Result.andThen_ok, if_true, run_sizeOf' hi, hr', Sem.run_pure]
      · simp only [RelV]
        refine ⟨_, rfl, by simp [hl.1], ?_, fun j hj => ⟨f j, ?_, ?_⟩⟩
        · obtain ⟨ds, h1, h2⟩ := h.shape hA
          exact ⟨ds, h1, by rw [h2, hl.1]⟩
        · rw [hl.1] at hj
          simp [hj]
        · rw [hl.1] at hj
          have := (hf j hj).2
          rw [hA] at this
          exact this
    · cases he
  | false =>
    rw [ha] at he
    simp only [] at he
    split at he
    · rename_i hj
      obtain rfl := Option.some.inj he
      obtain ⟨u, hu', r⟩ := h.cell j (blt_lt hj)
      refine ⟨u, ?_, relV_ofK r⟩
      simp only [loadVar, Sem.run_bind, run_isAgg' hu, ha, Result.andThen_ok, Bool.false_eq_true, if_false]
      exact run_load_cell hu'
    · cases he

theorem cell_of {b o : Nat} {cs : Array Value} {el : TypeId} {fz : Nat × Nat} (h : w.heap[b]? = some (.cells cs el fz)) : w.cell? ⟨b, o, none⟩ = cs[o]? := by
  simp [World.cell?, h]

theorem cells_one {v : Value} (h : v.oneCell' = true) : v.cells = #[v] := by
  cases v <;> first | rfl | simp [Value.oneCell'] at h

/-- The value of a cell of a box. -/
theorem relV_cellOf {x : V} {val : Value} (h : RelV P G ob w x val) {o : Nat} (ho : o < vcount x) (hx : x.isAg = true ∨ x.one = true) :
    ∃ u, val.cells[o]? = some u ∧ RelV P G ob w (cellOf x o) u := by
  cases x <;> simp only [V.isAg, V.one, Bool.false_eq_true, or_self, or_true, true_or, or_false, false_or] at hx
  case p ks d =>
    simp only [RelV] at h
    obtain ⟨cs, rfl, hs, hd, hc⟩ := h
    obtain ⟨u, hu, r⟩ := hc o (by simpa [vcount] using ho)
    exact ⟨u, hu, by simpa only [cellOf] using relV_ofK r⟩
  case agg vs =>
    simp only [RelV] at h
    obtain ⟨cs, rfl, h1, hc⟩ := h
    obtain ⟨u, hu, r⟩ := relVs_get hc (j := o) (by simpa [vcount] using ho)
    exact ⟨u, by simpa [Value.cells] using hu, by simpa only [cellOf] using r⟩
  all_goals
    have h0 : o = 0 := by simpa [vcount] using ho
    subst h0
    have hval : val.cells = #[val] := by
      refine cells_one ?_
      have h' := h
      simp only [RelV] at h'
      first
        | (subst h'; rfl)
        | exact h'.one
        | exact h'.1
        | (obtain ⟨b, off, cs, el, fz, rfl, _⟩ := h'; rfl)
        | (obtain ⟨cs, rfl, _⟩ := h'; rfl)
    exact ⟨val, by rw [hval]; rfl, by simpa only [cellOf] using h⟩


theorem rd_get : ∀ {xs : List D} {i : Nat}, i < xs.length → xs[i]? = some (rd xs i)
  | [], _, h => by simp at h
  | x :: _, 0, _ => rfl
  | _ :: xs, i + 1, h => by simpa [rd] using rd_get (xs := xs) (i := i) (by simpa using h)

/-- An element of a slice that the call owns. -/
theorem at_row {st : Bool} {e : TypeId} {xs : List D} {b len cap n : Nat} {cl : List Value} (hT : okT P e = true) (hη : G.η n = .slice (some ⟨b, 0, none⟩) len cap) (ho : w.ownsT st 0 e (csz P e) (G.η n) xs.length cl)
    (hE : Elems P w G.ok e (fun k => cl[k]?) xs) {i : Nat} (hi : i < xs.length) : At P G w e b (i * csz P e) (rd xs i) := by
  rw [hη] at ho
  have hlen : len = xs.length := by
    rcases ho.2 with ⟨h, _⟩ | ⟨g, c, cur, fz, h, _⟩
    · simp at h
    · simp only [Value.slice.injEq] at h; exact h.2.1
  subst hlen
  refine ⟨hT, (hE i hi).1, fun j hj => ?_⟩
  obtain ⟨v, hv, r⟩ := (hE i hi).2 j hj
  refine ⟨v, ?_, r⟩
  rw [World.ownsT.cellAt ho (i * csz P e + j) ?_]
  · exact hv
  · calc i * csz P e + j < i * csz P e + csz P e := by omega
      _ = (i + 1) * csz P e := by rw [Nat.add_mul]; omega
      _ ≤ xs.length * csz P e := Nat.mul_le_mul_right _ hi

theorem at_cr {e : TypeId} {d : D} {b off : Nat} {cs : Array Value} {el : TypeId} {fz : Nat × Nat} (hb : w.heap[b]? = some (.cells cs el fz)) (hT : okT P e = true)
    (hs : isA P e = true → ∃ ds, d = .r ds ∧ ds.length = csz P e) (hr : ∀ j, j < csz P e → ∃ v, cs[off + j]? = some v ∧ RepC P w G.ok (kget (cks P e) j) v (d.ecell (isA P e) j)) : At P G w e b off d :=
  ⟨hT, hs, fun j hj => let ⟨v, hv, r⟩ := hr j hj; ⟨v, (cell_of hb).trans hv, r⟩⟩

theorem relV_ag {x : V} {val : Value} (h : RelV P G ob w x val) (hx : x.isAg = true) : ∃ cs : Array Value, val = .agg cs ∧ cs.size = vcount x ∧ ∀ u ∈ cs, u.oneCell' = true := by
  cases x <;> simp only [V.isAg, Bool.false_eq_true] at hx
  · simp only [RelV] at h
    obtain ⟨cs, hv, hs, -, hc⟩ := h
    refine ⟨cs, hv, hs, fun u hu => ?_⟩
    obtain ⟨j, hj, rfl⟩ := Array.mem_iff_getElem.1 hu
    obtain ⟨u, hu', r⟩ := hc j (by omega)
    simp only [Array.getElem?_eq_getElem hj] at hu'
    rw [Option.some.inj hu']
    exact r.one
  · simp only [RelV] at h
    obtain ⟨cs, hv, h1, hc⟩ := h
    exact ⟨cs, hv, by rw [← Array.length_toList, relVs_len hc]; rfl, h1⟩

theorem loadV_sound (hob : ∀ n, RelO P G ob w n (ob n)) {t : TypeId} {td : TypeDesc} (hu : P.underlying t = some td) {X : V} {p : Value} (hX : RelV P G ob w X p) {c : Option Bool} {v : V}
    (h : loadV P ob t (aggD td) X = some (c, v)) (hc : ∀ x, c = some x → x = true) : ∃ u, (Instr.loadAt t p).run P w = .ok u w ∧ RelV P G ob w v u := by
  obtain ⟨i, hi⟩ := und_info hu
  unfold loadV at h
  split at h
  · rename_i n o
    simp only [RelV] at hX
    have hO := hob n
    split at h
    · rename_i x hx
      rw [hx] at hX hO
      simp only [RelO] at hX hO
      obtain ⟨-, b, hη, rfl⟩ := hX
      obtain ⟨b', el, val, hη', hb, hr⟩ := hO
      rw [hη] at hη'
      obtain rfl : b = b' := by simpa using hη'
      split at h
      · rename_i ha
        split at h
        · rename_i hag hsz
          obtain ⟨rfl, rfl⟩ := Prod.mk.inj (Option.some.inj h)
          obtain ⟨cs, rfl, hs, -⟩ := relV_ag hr hag
          have hsz' : i.size = cs.size := by rw [hs, ← beq_eq hsz, csz_info hi]
          have hl := run_loadCells_list (P := P) w ⟨b, 0, none⟩ cs.toList (fun j v hv => by
            rw [add_addr, Nat.zero_add, cell_of hb]
            simpa [Value.cells] using hv)
          refine ⟨.agg cs, ?_, hr⟩
          have hl' : (loadCells ⟨b, 0, none⟩ i.size).run P w = .ok cs w := by rw [hsz']; simpa using hl
          simp only [Instr.loadAt, Instr.sureAddr, Sem.run_bind, Sem.run_pure, Result.andThen_ok, loadVar, run_isAgg' hu, ha, if_true, run_sizeOf' hi, hl']
        · cases h
      · rename_i ha
        split at h
        · rename_i hlt
          split at h
          · rename_i hk
            obtain ⟨rfl, rfl⟩ := Prod.mk.inj (Option.some.inj h)
            obtain ⟨u, hu', r⟩ := relV_cellOf hr (blt_lt hlt) (by simpa using hk)
            refine ⟨u, ?_, r⟩
            simp only [Instr.loadAt, Instr.sureAddr, Sem.run_bind, Sem.run_pure, Result.andThen_ok, loadVar, run_isAgg' hu, ha, Bool.false_eq_true, if_false]
            exact run_load_cell ((cell_of hb).trans hu')
          · cases h
        · cases h
    · rename_i e xs hx
      rw [hx] at hX hO
      simp only [RelO] at hX hO
      split at h
      · rename_i m e' ha hm
        split at h
        · rename_i hsz
          rw [Bool.and_eq_true] at hsz
          obtain ⟨rfl, rfl⟩ := Prod.mk.inj (Option.some.inj h)
          obtain ⟨-, b, hη, rfl⟩ := hX
          obtain ⟨hT, b', el, cs, hη', hb, hs, hE⟩ := hO
          rw [hη] at hη'
          obtain rfl : b = b' := by simpa using hη'
          have hlen : xs.length = m := beq_eq (hc _ rfl)
          have hsz' : i.size = cs.size := by rw [hs, hlen, ← beq_eq hsz.2, csz_info hi]
          have hl := run_loadCells_list (P := P) w ⟨b, 0, none⟩ cs.toList (fun j v hv => by
            rw [add_addr, Nat.zero_add, cell_of hb]
            simpa using hv)
          refine ⟨.agg cs, ?_, by simp only [RelV]; exact ⟨cs, rfl, hs, hT, hE⟩⟩
          have hl' : (loadCells ⟨b, 0, none⟩ i.size).run P w = .ok cs w := by rw [hsz']; simpa using hl
          simp only [Instr.loadAt, Instr.sureAddr, Sem.run_bind, Sem.run_pure, Result.andThen_ok, loadVar, run_isAgg' hu, ha, if_true, run_sizeOf' hi, hl']
        · cases h
      · cases h
    · cases h
  · rename_i e d j
    simp only [RelV] at hX
    obtain ⟨b, off, cs, el, fz, rfl, -, hb, hT, hs, hr⟩ := hX
    have hA := at_cr (G := G) hb hT hs hr
    split at h
    · cases h
    · rename_i hne
      split at h
      · rename_i v' he
        obtain ⟨rfl, rfl⟩ := Prod.mk.inj (Option.some.inj h)
        have hs' : aggD td = true → csz P t = csz P e := fun ha => by
          cases hb : Nat.beq (csz P t) (csz P e) with
          | true => exact beq_eq hb
          | false => exact (hne ha hb).elim
        obtain ⟨u, hr', r⟩ := run_elem (ob := ob) hu hs' hA he
        exact ⟨u, by simp only [Instr.loadAt, Instr.sureAddr, Sem.run_bind, Sem.run_pure, Result.andThen_ok, hr'], r⟩
      · cases h
  · rename_i n g i' j
    simp only [RelV] at hX
    have hO := hob n
    split at h
    · rename_i e xs g' hx
      rw [hx] at hX hO
      simp only [RelO] at hX hO
      split at h
      · cases h
      · cases h
      · rename_i hg hne
        split at h
        · rename_i v' he
          obtain ⟨rfl, rfl⟩ := Prod.mk.inj (Option.some.inj h)
          obtain ⟨-, -, hX⟩ := hX
          obtain ⟨b, len, cap, hη, rfl⟩ := hX (beq_eq hg)
          obtain ⟨hT, cl, ho, hE⟩ := hO
          have hA := at_row hT hη ho hE (blt_lt (hc _ rfl))
          have hs' : aggD td = true → csz P t = csz P e := fun ha => by
            cases hb : Nat.beq (csz P t) (csz P e) with
            | true => exact beq_eq hb
            | false => exact (hne ha hb).elim
          obtain ⟨u, hr', r⟩ := run_elem (ob := ob) hu hs' hA he
          exact ⟨u, by simp only [Instr.loadAt, Instr.sureAddr, Sem.run_bind, Sem.run_pure, Result.andThen_ok, hr'], r⟩
        · cases h
    · rename_i e xs hx
      rw [hx] at hX hO
      simp only [RelO] at hX hO
      split at h
      · cases h
      · rename_i hne
        split at h
        · rename_i v' he
          obtain ⟨rfl, rfl⟩ := Prod.mk.inj (Option.some.inj h)
          obtain ⟨-, b, hη, rfl⟩ := hX
          obtain ⟨hT, b', el, cs, hη', hb, hs, hE⟩ := hO
          rw [hη] at hη'
          obtain rfl : b = b' := by simpa using hη'
          have hi' := blt_lt (hc _ rfl)
          have hA : At P G w e b (i' * csz P e) (rd xs i') := ⟨hT, (hE i' hi').1, fun j hj => let ⟨v, hv, r⟩ := (hE i' hi').2 j hj; ⟨v, (cell_of hb).trans hv, r⟩⟩
          have hs' : aggD td = true → csz P t = csz P e := fun ha => by
            cases hb : Nat.beq (csz P t) (csz P e) with
            | true => exact beq_eq hb
            | false => exact (hne ha hb).elim
          obtain ⟨u, hr', r⟩ := run_elem (ob := ob) hu hs' hA he
          exact ⟨u, by simp only [Instr.loadAt, Instr.sureAddr, Sem.run_bind, Sem.run_pure, Result.andThen_ok, hr'], r⟩
        · cases h
    · cases h
  · cases h

theorem run_partC {t : TypeId} {td : TypeDesc} (hu : P.underlying t = some td) (ha : aggD td = false) {cs : Array Value} {o : Nat} {v : Value} (h : cs[o]? = some v) : (part t cs o).run P w = .ok v w := by
  simp only [part, Sem.run_bind, run_isAgg' hu, ha, Result.andThen_ok, Bool.false_eq_true, if_false, h, Sem.run_pure]

theorem run_eqC {t : TypeId} {x y : V} {r : Bool} (h : eqC (P.underlying t) x y = some r) {u v : Value} (hx : RelV P G ob w x u) (hy : RelV P G ob w y v) (d : Nat) :
    (∃ td, P.underlying t = some td ∧ aggD td = false) ∧ (Op.equalIn (d + 1) t u v).run P w = .ok r w := by
  unfold eqC at h
  split at h
  · rename_i k' k a k2 b hu
    split at h
    · rename_i hk
      obtain rfl := ikEq_eq hk
      obtain rfl := Option.some.inj h
      simp only [RelV] at hx hy
      subst hx; subst hy
      exact ⟨⟨_, hu, rfl⟩, run_equalIn_int w d t k k' a b hu⟩
    · cases h
  · rename_i a b hu
    obtain rfl := Option.some.inj h
    simp only [RelV] at hx hy
    subst hx; subst hy
    exact ⟨⟨_, hu, rfl⟩, run_equalIn_bool' w d t a b hu⟩
  · rename_i a b hu
    obtain rfl := Option.some.inj h
    simp only [RelV] at hx hy
    subst hx; subst hy
    exact ⟨⟨_, hu, rfl⟩, run_equalIn_string w d t a b hu⟩
  · cases h

theorem run_eqFs {x y : V} {xs ys : Array Value} (hX : RelV P G ob w x (.agg xs)) (hY : RelV P G ob w y (.agg ys)) (hx : x.isAg = true) (hy : y.isAg = true) : ∀ (fs : List Field) {r : Bool}, eqFs P fs x y = some r → (Op.eqFields 9999 xs ys fs).run P w = .ok r w
  | [], r, h => by
    obtain rfl := Option.some.inj h
    rfl
  | f :: fs, r, h => by
    unfold eqFs at h
    split at h
    · rename_i a b hb h1 h2
      obtain rfl := Option.some.inj h
      simp only [Bool.and_eq_true] at hb
      obtain ⟨u, hu, ru⟩ := relV_cellOf hX (blt_lt hb.1) (.inl hx)
      obtain ⟨v, hv, rv⟩ := relV_cellOf hY (blt_lt hb.2.1) (.inl hy)
      obtain ⟨⟨td, htd, hag⟩, he⟩ := run_eqC h1 ru rv 9998
      have hn : f.name ≠ "_" := by simpa using hb.2.2
      have ih := run_eqFs hX hY hx hy fs h2
      simp only [Value.cells] at hu hv
      rw [Op.eqFields, if_pos hn]
      simp only [Sem.run_bind, run_partC htd hag hu, run_partC htd hag hv, Result.andThen_ok, he, Sem.run_ite, Sem.run_pure]
      cases a
      · simp
      · simpa using ih
    · cases h

theorem nilV_sound {op : BinOp} {t : TypeId} {a : Option Addr} {l cap : Nat} {c : Option Bool} {r : Bool} {c' : Option Bool} {v : V} (h : nilV P op t c r = some (c', v)) (hr : a.isNone = r) (x y : Operand) :
    c' = c ∧ ∃ u, (do eqGuard op t x y (.slice a l cap) (.slice none 0 0); binOp op t (.slice a l cap) (.slice none 0 0) : Sem Value).run P w = .ok u w ∧ RelV P G ob w v u := by
  have hg : ∀ op, eqGuard op t x y (.slice a l cap) (.slice none 0 0) = pure () := fun op => by unfold eqGuard; split <;> rfl
  unfold nilV at h
  split at h
  · rename_i e hu
    obtain ⟨rfl, rfl⟩ := Prod.mk.inj (Option.some.inj h)
    refine ⟨rfl, .bool r, ?_, by simp only [RelV]⟩
    rw [hg]
    simp only [Sem.run_bind, Sem.run_pure, Result.andThen_ok]
    rw [run_eql_slice_nil w t e a l cap hu, hr]
  · rename_i e hu
    obtain ⟨rfl, rfl⟩ := Prod.mk.inj (Option.some.inj h)
    refine ⟨rfl, .bool (!r), ?_, by simp only [RelV]⟩
    rw [hg]
    simp only [Sem.run_bind, Sem.run_pure, Result.andThen_ok]
    rw [run_neq_slice_nil w t e a l cap hu, hr]
  · cases h

theorem run_binV {op : BinOp} {t : TypeId} {X Y : V} {p q : Value} {c : Option Bool} {v : V} (h : binV P op t X Y = some (c, v)) (hc : ∀ x, c = some x → x = true) (hX : RelV P G ob w X p) (hY : RelV P G ob w Y q) (x y : Operand) :
    ∃ u, (do eqGuard op t x y p q; binOp op t p q : Sem Value).run P w = .ok u w ∧ RelV P G ob w v u := by
  unfold binV at h
  split at h
  · split at h
    · rename_i k a k' b hk
      obtain rfl := ikEq_eq hk
      simp only [RelV] at hX hY
      subst hX; subst hY
      exact run_binI h hc t x y
    · cases h
  · simp only [RelV] at hX hY
    subst hX; subst hY
    rename_i a b
    split at h
    · rename_i hu
      have hg : eqGuard op t x y (.bool a) (.bool b) = pure () := by unfold eqGuard; split <;> rfl
      have he : (Op.equal t (.bool a) (.bool b)).run P w = .ok (a == b) w := run_eqBool hu a b w 9999
      rw [hg]
      cases op <;> simp only [] at h <;> first | (cases h; done) | skip
      all_goals
        obtain ⟨rfl, rfl⟩ := Prod.mk.inj (Option.some.inj h)
        simp only [RelV]
        simp [binOp, he]
    · cases h
  · simp only [RelV] at hX hY
    subst hX; subst hY
    exact run_binS h hc t x y
  · rename_i e' xs
    simp only [RelV] at hX hY
    subst hY
    rcases hX.of_sl with ⟨rfl, he⟩ | ⟨a, cap, rfl, he, -⟩ | ⟨b, off, cap, ys, cs, el, fz, rfl, -, -, -, -, -, -⟩
    · obtain rfl : xs = [] := by simpa using he
      have hcc : c = some (Nat.blt 0 ([] : List D).length) := by
        clear hX he
        unfold nilV at h
        split at h
        · exact (Prod.mk.inj (Option.some.inj h)).1.symm
        · exact (Prod.mk.inj (Option.some.inj h)).1.symm
        · cases h
      exact absurd (hc _ hcc) (by decide)
    · obtain rfl : xs = [] := by simpa using he
      exact (nilV_sound h rfl x y).2
    · exact (nilV_sound h rfl x y).2
  · simp only [RelV] at hX hY
    subst hY
    obtain ⟨-, a, cap, rfl⟩ := hX
    exact (nilV_sound h rfl x y).2
  · simp only [RelV] at hX hY
    subst hX; subst hY
    exact (nilV_sound h rfl x y).2
  · split at h
    · rename_i fs hag hu
      rw [Bool.and_eq_true] at hag
      split at h
      · rename_i r hg he
        rw [Bool.and_eq_true] at hg
        obtain ⟨xs, rfl, hsx, -⟩ := relV_ag hX hag.1
        obtain ⟨ys, rfl, hsy, -⟩ := relV_ag hY hag.2
        have hf : P.fieldsOf t = fs := by unfold Program.fieldsOf; rw [hu]
        have h1 : (Op.equalIn 10000 t (.agg xs) (.agg ys)).run P w = .ok r w := by
          rw [run_equalIn_struct w 9999 t xs ys (by rw [hf]; exact hu) (by simpa using hg.1), hf]
          exact run_eqFs hX hY hag.1 hag.2 _ he
        have h2 := run_eqGuard_agg (P := P) w op t x y xs ys (by simpa using hg.2)
        cases op <;> simp only [] at h <;> first | (cases h; done) | skip
        all_goals
          obtain ⟨rfl, rfl⟩ := Prod.mk.inj (Option.some.inj h)
          simp only [RelV]
        · refine ⟨.bool r, ?_, rfl⟩
          rw [Sem.run_bind, h2, Result.andThen_ok, run_eql_struct, h1]; rfl
        · refine ⟨.bool (!r), ?_, rfl⟩
          rw [Sem.run_bind, h2, Result.andThen_ok, run_neq_struct, h1]; rfl
      · cases h
    · cases h

end Go.Pv

namespace Go.Pv
variable {P : Program} {G : Gh} {ob : Nat → O} {w : World}

theorem csz_pos {t : TypeId} (h : 0 < csz P t) : ∃ i, P.info? t = some i ∧ csz P t = i.size := by
  unfold csz at h ⊢
  cases hi : P.info? t with
  | none => simp [hi] at h
  | some i => exact ⟨i, rfl, rfl⟩

theorem run_field {t : TypeId} {f q b o : Nat} (h : fieldOff P t f = some q) : (Instr.fieldAt t (.pointer (some ⟨b, o, none⟩)) f).run P w = .ok (.pointer (some ⟨b, o + q, none⟩)) w := by
  unfold fieldOff at h
  split at h
  · rename_i fs hu
    split at h
    · rename_i x hx
      split at h
      · rename_i hsz
        obtain rfl := Option.some.inj h
        obtain ⟨i, hi, hs⟩ := csz_pos (blt_lt hsz)
        have h0 : ¬ i.size = 0 := by have := blt_lt hsz; omega
        simp only [Instr.fieldAt, Sem.run_bind, run_underlying hu, Result.andThen_ok, hx, Instr.sureAddr, Sem.run_pure, fieldPlace, run_sizeOf' hi, h0, if_false, add_addr]
      · cases h
    · cases h
  · cases h

theorem fieldAddr_sound {t : TypeId} {f : Nat} {X : V} {p : Value} (hX : RelV P G ob w X p) {q : Nat} (hq : fieldOff P t f = some q) :
    (∀ n o v, X = .ref n o → ob n = .box v → ∃ u, (Instr.fieldAt t p f).run P w = .ok u w ∧ RelV P G ob w (.ref n (o + q)) u) ∧
    (∀ n g i j e xs g', X = .ev n g i j → ob n = .row e xs g' → g = g' → ∃ u, (Instr.fieldAt t p f).run P w = .ok u w ∧ RelV P G ob w (.ev n g i (j + q)) u) ∧
    (∀ n g i j e xs, X = .ev n g i j → ob n = .arr e xs → ∃ u, (Instr.fieldAt t p f).run P w = .ok u w ∧ RelV P G ob w (.ev n g i (j + q)) u) ∧
    (∀ e d j, X = .cr e d j → ∃ u, (Instr.fieldAt t p f).run P w = .ok u w ∧ RelV P G ob w (.cr e d (j + q)) u) := by
  refine ⟨?_, ?_, ?_, ?_⟩
  · rintro n o v rfl hx
    simp only [RelV] at hX ⊢
    rw [hx] at hX ⊢
    obtain ⟨-, b, hη, rfl⟩ := hX
    exact ⟨_, run_field hq, rfl, b, hη, rfl⟩
  · rintro n g i j e xs g' rfl hx rfl
    simp only [RelV] at hX ⊢
    rw [hx] at hX ⊢
    obtain ⟨-, hle, hX⟩ := hX
    obtain ⟨b, len, cap, hη, rfl⟩ := hX rfl
    exact ⟨_, run_field hq, rfl, hle, fun _ => ⟨b, len, cap, hη, by rw [Nat.add_assoc]⟩⟩
  · rintro n g i j e xs rfl hx
    simp only [RelV] at hX ⊢
    rw [hx] at hX ⊢
    obtain ⟨-, b, hη, rfl⟩ := hX
    exact ⟨_, run_field hq, rfl, b, hη, by rw [Nat.add_assoc]⟩
  · rintro e d j rfl
    simp only [RelV] at hX ⊢
    obtain ⟨b, off, cs, el, fz, rfl, h⟩ := hX
    exact ⟨_, run_field hq, b, off, cs, el, fz, by rw [Nat.add_assoc], h⟩

theorem run_index_slice {t e : TypeId} (hu : P.underlying t = some (.slice e)) {i' : TypeInfo} (hi : P.info? e = some i') (b off len cap : Nat) (k : IntKind) {i : Int} (h0 : 0 ≤ i) (h1 : i < (len : Int)) :
    (Instr.indexAt t (.slice (some ⟨b, off, none⟩) len cap) (.int k i)).run P w = .ok (.pointer (some ⟨b, off + i.toNat * i'.size, none⟩)) w := by
  simp [Instr.indexAt, asIntOf, run_underlying hu, h0, h1, run_sizeOf' hi, add_addr]

theorem run_index_array {t e : TypeId} {m : Nat} (hu : P.underlying t = some (.array m e)) {i' : TypeInfo} (hi : P.info? e = some i') (b off : Nat) (k : IntKind) {i : Int} (h0 : 0 ≤ i) (h1 : i < (m : Int)) :
    (Instr.indexAt t (.pointer (some ⟨b, off, none⟩)) (.int k i)).run P w = .ok (.pointer (some ⟨b, off + i.toNat * i'.size, none⟩)) w := by
  simp [Instr.indexAt, Instr.sureAddr, asIntOf, run_underlying hu, h0, h1, run_sizeOf' hi, add_addr]

theorem inB_spec {i : Int} {n : Nat} (h : inB i n = true) : 0 ≤ i ∧ i < (n : Int) ∧ i.toNat < n := by
  unfold inB at h
  simp only [Bool.and_eq_true, decide_eq_true_eq] at h
  exact ⟨h.1, h.2, by omega⟩

theorem okT_info {e : TypeId} (h : okT P e = true) : ∃ i, P.info? e = some i ∧ csz P e = i.size := csz_pos (okT_len h).2.1

/-- The element of a slice that is read. -/
theorem cr_of {e : TypeId} {b off : Nat} {xs : List D} {cs : Array Value} {el : TypeId} {fz : Nat × Nat} (hok : G.ok b) (hb : w.heap[b]? = some (.cells cs el fz)) (hT : okT P e = true)
    (hE : Elems P w G.ok e (fun k => cs[off + k]?) xs) {i : Nat} (hi : i < xs.length) : RelV P G ob w (.cr e (rd xs i) 0) (.pointer (some ⟨b, off + i * csz P e, none⟩)) := by
  simp only [RelV]
  exact ⟨b, off + i * csz P e, cs, el, fz, rfl, hok, hb, hT, (hE i hi).1, fun j hj => let ⟨v, hv, r⟩ := (hE i hi).2 j hj; ⟨v, by rw [Nat.add_assoc]; exact hv, r⟩⟩

theorem index_cr {t e : TypeId} (hu : P.underlying t = some (.slice e)) {p : Value} {xs : List D} (h : RepC P w G.ok (.sl e) p (.l xs)) (k : IntKind) {i : Int} (hi : inB i xs.length = true) :
    ∃ u, (Instr.indexAt t p (.int k i)).run P w = .ok u w ∧ RelV P G ob w (.cr e (rd xs i.toNat) 0) u := by
  obtain ⟨h0, h1, h2⟩ := inB_spec hi
  rcases h.of_sl with ⟨-, he⟩ | ⟨a, cap, -, he, -⟩ | ⟨b, off, cap, ys, cs, el, fz, rfl, he, hok, hb, hT, hc, hE⟩
  · obtain rfl : xs = [] := by simpa using he
    simp at h2
  · obtain rfl : xs = [] := by simpa using he
    simp at h2
  · obtain rfl : xs = ys := by simpa using he
    obtain ⟨i', hi', hs⟩ := okT_info hT
    exact ⟨_, run_index_slice hu hi' b off _ cap k h0 h1, by rw [← hs]; exact cr_of hok hb hT hE h2⟩

theorem owned_head {st : Bool} {e : TypeId} {n : Nat} {v : Value} {cl : List Value} {sz : Nat} (h : w.ownsT st 0 e sz v n cl) : (v = .slice none 0 0 ∧ n = 0) ∨ ∃ b cap, v = .slice (some ⟨b, 0, none⟩) n cap ∧ n ≤ cap := by
  rcases h.2 with h | ⟨g, cap, cur, fz, h, -, -, -, hc, -⟩
  · exact .inl h
  · exact .inr ⟨g, cap, h, hc⟩

theorem indexV_sound (hob : ∀ n, RelO P G ob w n (ob n)) {t : TypeId} {X : V} {p : Value} (hX : RelV P G ob w X p) (k : IntKind) {i : Int} {c : Option Bool} {v : V}
    (h : indexV P ob t X i = some (c, v)) (hc : ∀ x, c = some x → x = true) : ∃ u, (Instr.indexAt t p (.int k i)).run P w = .ok u w ∧ RelV P G ob w v u := by
  unfold indexV at h
  split at h
  · rename_i e e' xs hu
    split at h
    · rename_i he
      obtain rfl := beq_eq he
      obtain ⟨rfl, rfl⟩ := Prod.mk.inj (Option.some.inj h)
      simp only [RelV] at hX
      exact index_cr hu hX k (hc _ rfl)
    · cases h
  · rename_i e n g hu
    have hO := hob n
    split at h
    · rename_i e' xs g' hx
      split at h
      · rename_i hge
        simp only [Bool.and_eq_true] at hge
        obtain rfl := beq_eq hge.1
        obtain rfl := beq_eq hge.2
        obtain ⟨rfl, rfl⟩ := Prod.mk.inj (Option.some.inj h)
        obtain ⟨h0, h1, h2⟩ := inB_spec (hc _ rfl)
        simp only [RelV] at hX ⊢
        rw [hx] at hX hO ⊢
        obtain ⟨-, -, hX⟩ := hX
        obtain rfl := hX rfl
        simp only [RelO] at hO
        obtain ⟨hT, cl, ho, hE⟩ := hO
        obtain ⟨i', hi', hs⟩ := okT_info hT
        rcases owned_head ho with ⟨-, hn⟩ | ⟨b, cap, hη, -⟩
        · omega
        · rw [hη]
          exact ⟨_, run_index_slice hu hi' b 0 _ cap k h0 h1, rfl, Nat.le_refl _, fun _ => ⟨b, _, cap, rfl, by simp [hs]⟩⟩
      · cases h
    · rename_i e' xs g' hx
      split at h
      · rename_i hge
        simp only [Bool.and_eq_true] at hge
        obtain rfl := beq_eq hge.1
        obtain rfl := beq_eq hge.2
        obtain ⟨rfl, rfl⟩ := Prod.mk.inj (Option.some.inj h)
        simp only [RelV] at hX
        rw [hx] at hX
        exact index_cr hu (hX.2 rfl) k (hc _ rfl)
      · cases h
    · cases h
  · rename_i m e n hu
    have hO := hob n
    split at h
    · rename_i e' xs hx
      split at h
      · rename_i hge
        simp only [Bool.and_eq_true] at hge
        obtain rfl := beq_eq hge.1
        obtain ⟨rfl, rfl⟩ := Prod.mk.inj (Option.some.inj h)
        have hb := hc _ rfl
        simp only [Bool.and_eq_true] at hb
        obtain ⟨h0, h1, -⟩ := inB_spec hb.1
        simp only [RelV] at hX ⊢
        rw [hx] at hX hO ⊢
        obtain ⟨-, b, hη, rfl⟩ := hX
        simp only [RelO] at hO
        obtain ⟨i', hi', hs⟩ := okT_info hO.1
        exact ⟨_, run_index_array hu hi' b 0 k h0 h1, rfl, b, hη, by simp [hs]⟩
      · cases h
    · cases h
  · cases h

end Go.Pv

namespace Go.Pv
variable {P : Program} {G : Gh} {ob : Nat → O} {w : World}

theorem run_bound {k : IntKind} {i : Int} {y : Nat} {c : BoundsCode} (h0 : 0 ≤ i) (h1 : i ≤ (y : Int)) : (Instr.sliceBound (.int k i) y c).run P w = .ok i.toNat w := by
  simp [Instr.sliceBound, asIntOf, h0, h1]

theorem rd_drop : ∀ (xs : List D) (l i : Nat), rd (xs.drop l) i = rd xs (l + i)
  | [], l, i => by simp [rd]
  | x :: xs, 0, i => by simp
  | x :: xs, l + 1, i => by
    have : l + 1 + i = (l + i) + 1 := by omega
    rw [this]
    simpa [rd] using rd_drop xs l i
theorem rd_take : ∀ (xs : List D) (h i : Nat), i < h → rd (xs.take h) i = rd xs i
  | [], h, i, _ => by simp
  | x :: xs, 0, i, hi => by omega
  | x :: xs, h + 1, 0, _ => rfl
  | x :: xs, h + 1, i + 1, hi => by simpa [rd] using rd_take xs h i (by omega)

/-- A part of a slice that reads as data. -/
theorem RepC.part {e : TypeId} {ok : Nat → Prop} {b off cap : Nat} {xs : List D} {cs : Array Value} {el : TypeId} {fz : Nat × Nat} (hok : ok b) (hb : w.heap[b]? = some (.cells cs el fz)) (hT : okT P e = true) (hc : xs.length ≤ cap)
    (hE : Elems P w ok e (fun k => cs[off + k]?) xs) {l h : Nat} (hl : l ≤ h) (hh : h ≤ xs.length) {o' : Nat} (ho : l < h → o' = off + l * csz P e) :
    RepC P w ok (.sl e) (.slice (some ⟨b, o', none⟩) (h - l) (cap - l)) (.l ((xs.take h).drop l)) := by
  have hlen : ((xs.take h).drop l).length = h - l := by simp; omega
  rw [← hlen]
  refine RepC.slice hok hb hT (by rw [hlen]; omega) fun i hi => ?_
  rw [hlen] at hi
  rw [rd_drop, rd_take _ _ _ (by omega), ho (by omega)]
  obtain ⟨h1, h2⟩ := hE (l + i) (by omega)
  refine ⟨h1, fun j hj => ?_⟩
  obtain ⟨v, hv, r⟩ := h2 j hj
  refine ⟨v, ?_, r⟩
  rw [← hv]
  simp only [Nat.add_mul, Nat.add_assoc]

/-- The bounds of a slice expression. -/
def Bd (lo hi : Option V) (len : Nat) (c : Bool) (l h : Nat) (blo bhi : Option Value) : Prop :=
  c = true → l ≤ h ∧ h ≤ len ∧ ((blo = none ∧ l = 0) ∨ ∃ k i, blo = some (.int k i) ∧ 0 ≤ i ∧ i.toNat = l ∧ i = (l : Int)) ∧ ((bhi = none ∧ h = len) ∨ ∃ k i, bhi = some (.int k i) ∧ 0 ≤ i ∧ i.toNat = h ∧ i = (h : Int))

theorem run_sliceBounds {s : Bool} {len cap l h : Nat} (hlc : len ≤ cap) (hl : l ≤ h) (hh : h ≤ len) {lo hi : Option Value} (h1 : (lo = none ∧ l = 0) ∨ ∃ k, lo = some (.int k (l : Int))) (h2 : (hi = none ∧ h = len) ∨ ∃ k, hi = some (.int k (h : Int))) :
    (Instr.sliceBounds s len cap lo hi none).run P w = .ok (l, h, cap) w := by
  have b1 : ∀ k y c, l ≤ y → (Instr.sliceBound (.int k (l : Int)) y c).run P w = .ok l w := fun k y c hy => by
    have := run_bound (P := P) (w := w) (k := k) (i := (l : Int)) (y := y) (c := c) (by omega) (by omega); simpa using this
  have b2 : ∀ k y c, h ≤ y → (Instr.sliceBound (.int k (h : Int)) y c).run P w = .ok h w := fun k y c hy => by
    have := run_bound (P := P) (w := w) (k := k) (i := (h : Int)) (y := y) (c := c) (by omega) (by omega); simpa using this
  rcases h1 with ⟨rfl, rfl⟩ | ⟨k, rfl⟩ <;> rcases h2 with ⟨rfl, rfl⟩ | ⟨k', rfl⟩
  · simp [Instr.sliceBounds]
  · simp [Instr.sliceBounds, b2 _ _ _ (show h ≤ cap by omega)]
  · simp [Instr.sliceBounds, b1 _ _ _ hl]
  · simp [Instr.sliceBounds, b1 _ _ _ hl, b2 _ _ _ (show h ≤ cap by omega)]

theorem run_slice_str {t : TypeId} (hu : P.underlying t = some .string) (s : ByteArray) {l h : Nat} (hl : l ≤ h) (hh : h ≤ s.size) {lo hi : Option Value} (h1 : (lo = none ∧ l = 0) ∨ ∃ k, lo = some (.int k (l : Int))) (h2 : (hi = none ∧ h = s.size) ∨ ∃ k, hi = some (.int k (h : Int))) :
    (Instr.sliceAt t (.string s) lo hi none).run P w = .ok (.string (s.extract l h)) w := by
  simp [Instr.sliceAt, Instr.slice, run_underlying hu, run_sliceBounds (Nat.le_refl _) hl hh h1 h2]

theorem run_slice_sl {t e : TypeId} (hu : P.underlying t = some (.slice e)) {i' : TypeInfo} (hi' : P.info? e = some i') (a : Option Addr) {len cap l h : Nat} (hlc : len ≤ cap) (hl : l ≤ h) (hh : h ≤ len) {lo hi : Option Value}
    (h1 : (lo = none ∧ l = 0) ∨ ∃ k, lo = some (.int k (l : Int))) (h2 : (hi = none ∧ h = len) ∨ ∃ k, hi = some (.int k (h : Int))) :
    (Instr.sliceAt t (.slice a len cap) lo hi none).run P w = .ok (.slice (if cap = l then a else a.map (·.add (l * i'.size))) (h - l) (cap - l)) w := by
  simp [Instr.sliceAt, Instr.slice, run_underlying hu, run_sliceBounds hlc hl hh h1 h2, run_sizeOf' hi']

theorem relV_int {X : V} {p : Value} {k : IntKind} {n : Int} (h : RelV P G ob w X p) (hX : X = .i k n) : p = .int k n := by
  subst hX; simpa only [RelV] using h

/-- What a slice expression's bounds come to. -/
theorem bounds_of {lo hi : Option V} {blo bhi : Option Value} (rlo : ∀ x, lo = some x → ∃ p, blo = some p ∧ RelV P G ob w x p) (nlo : lo = none → blo = none) (rhi : ∀ x, hi = some x → ∃ p, bhi = some p ∧ RelV P G ob w x p) (nhi : hi = none → bhi = none) (len : Nat) :
    (∀ k h, lo = none → hi = some (.i k h) → (decide (0 ≤ h) && decide (h ≤ (len : Int))) = true →
      h.toNat ≤ len ∧ ((blo = none ∧ (0 : Nat) = 0) ∨ ∃ k, blo = some (.int k ((0 : Nat) : Int))) ∧ ((bhi = none ∧ h.toNat = len) ∨ ∃ k, bhi = some (.int k (h.toNat : Int)))) ∧
    (∀ k l, lo = some (.i k l) → hi = none → (decide (0 ≤ l) && decide (l ≤ (len : Int))) = true →
      l.toNat ≤ len ∧ ((blo = none ∧ l.toNat = 0) ∨ ∃ k, blo = some (.int k (l.toNat : Int))) ∧ ((bhi = none ∧ len = len) ∨ ∃ k, bhi = some (.int k (len : Int)))) ∧
    (∀ k l k' h, lo = some (.i k l) → hi = some (.i k' h) → (decide (0 ≤ l) && (decide (l ≤ h) && decide (h ≤ (len : Int)))) = true →
      l.toNat ≤ h.toNat ∧ h.toNat ≤ len ∧ ((blo = none ∧ l.toNat = 0) ∨ ∃ k, blo = some (.int k (l.toNat : Int))) ∧ ((bhi = none ∧ h.toNat = len) ∨ ∃ k, bhi = some (.int k (h.toNat : Int)))) := by
  refine ⟨?_, ?_, ?_⟩
  · intro k h hl hh hc
    simp only [Bool.and_eq_true, decide_eq_true_eq] at hc
    obtain ⟨p, hp, r⟩ := rhi _ hh
    obtain rfl := relV_int r rfl
    exact ⟨by omega, .inl ⟨nlo hl, rfl⟩, .inr ⟨k, by rw [hp, Int.toNat_of_nonneg hc.1]⟩⟩
  · intro k l hl hh hc
    simp only [Bool.and_eq_true, decide_eq_true_eq] at hc
    obtain ⟨p, hp, r⟩ := rlo _ hl
    obtain rfl := relV_int r rfl
    exact ⟨by omega, .inr ⟨k, by rw [hp, Int.toNat_of_nonneg hc.1]⟩, .inl ⟨nhi hh, rfl⟩⟩
  · intro k l k' h hl hh hc
    simp only [Bool.and_eq_true, decide_eq_true_eq] at hc
    obtain ⟨p, hp, r⟩ := rlo _ hl
    obtain rfl := relV_int r rfl
    obtain ⟨p', hp', r'⟩ := rhi _ hh
    obtain rfl := relV_int r' rfl
    exact ⟨by omega, by omega, .inr ⟨k, by rw [hp, Int.toNat_of_nonneg hc.1]⟩, .inr ⟨k', by rw [hp', Int.toNat_of_nonneg (by omega)]⟩⟩

theorem part_rel {t e : TypeId} (hu : P.underlying t = some (.slice e)) (hT : okT P e = true) {p : Value} {xs : List D} (h : RepC P w G.ok (.sl e) p (.l xs)) {l hi : Nat} (hl : l ≤ hi) (hh : hi ≤ xs.length) {blo bhi : Option Value}
    (h1 : (blo = none ∧ l = 0) ∨ ∃ k, blo = some (.int k (l : Int))) (h2 : (bhi = none ∧ hi = xs.length) ∨ ∃ k, bhi = some (.int k (hi : Int))) :
    ∃ u, (Instr.sliceAt t p blo bhi none).run P w = .ok u w ∧ RepC P w G.ok (.sl e) u (.l ((xs.take hi).drop l)) := by
  rcases h.of_sl with ⟨rfl, he⟩ | ⟨a, cap, rfl, he, -⟩ | ⟨b, off, cap, ys, cs, el, fz, rfl, he, hok, hb, hT, hc, hE⟩
  · obtain rfl : xs = [] := by simpa using he
    simp only [List.length_nil, Nat.le_zero_eq] at hh
    subst hh
    obtain rfl : l = 0 := by omega
    obtain ⟨i', hi', -⟩ := okT_info hT
    exact ⟨_, run_slice_sl hu hi' none (Nat.le_refl _) hl (by simp) h1 (by simpa using h2), by simpa using RepC.nil e⟩
  · obtain rfl : xs = [] := by simpa using he
    simp only [List.length_nil, Nat.le_zero_eq] at hh
    subst hh
    obtain rfl : l = 0 := by omega
    obtain ⟨i', hi', -⟩ := okT_info hT
    refine ⟨_, run_slice_sl hu hi' (some a) (Nat.zero_le cap) hl (by simp) h1 (by simpa using h2), ?_⟩
    simp only [List.take_nil, List.drop_nil, Nat.sub_zero]
    split
    · exact .mt e a cap hT
    · exact .mt e _ cap hT
  · obtain rfl : xs = ys := by simpa using he
    obtain ⟨i', hi', hs⟩ := okT_info hT
    refine ⟨_, run_slice_sl hu hi' (some ⟨b, off, none⟩) hc hl hh h1 h2, ?_⟩
    by_cases hcl : cap = l
    · rw [if_pos hcl]
      exact RepC.part hok hb hT hc hE hl hh (fun h => by omega)
    · rw [if_neg hcl]
      simp only [Option.map_some, add_addr, ← hs]
      exact RepC.part hok hb hT hc hE hl hh (fun _ => rfl)

theorem view_rel {st : Bool} {t e : TypeId} (hu : P.underlying t = some (.slice e)) (hT : okT P e = true) {len : Nat} {v : Value} {cl : List Value} (ho : w.ownsT st 0 e (csz P e) v len cl) {l hi : Nat} (hl : l ≤ hi) (hh : hi ≤ len) {blo bhi : Option Value}
    (h1 : (blo = none ∧ l = 0) ∨ ∃ k, blo = some (.int k (l : Int))) (h2 : (bhi = none ∧ hi = len) ∨ ∃ k, bhi = some (.int k (hi : Int))) :
    ∃ u, (Instr.sliceAt t v blo bhi none).run P w = .ok u w ∧ u.oneCell' = true ∧ RepV P e l hi v u := by
  obtain ⟨i', hi', hs⟩ := okT_info hT
  rcases owned_head ho with ⟨rfl, rfl⟩ | ⟨b, cap, rfl, hc⟩
  · obtain rfl : hi = 0 := by omega
    obtain rfl : l = 0 := by omega
    exact ⟨_, run_slice_sl hu hi' none (Nat.le_refl _) hl hh h1 h2, rfl, by simp [RepV]⟩
  · refine ⟨_, run_slice_sl hu hi' (some ⟨b, 0, none⟩) hc hl hh h1 h2, rfl, ?_⟩
    by_cases hcl : cap = l
    · rw [if_pos hcl]
      exact ⟨0, cap - l, rfl, fun h => by omega, by omega⟩
    · rw [if_neg hcl]
      simp only [Option.map_some, add_addr, ← hs]
      exact ⟨0 + l * csz P e, cap - l, rfl, fun _ => by simp, by omega⟩

theorem sliceV_sound (hob : ∀ n, RelO P G ob w n (ob n)) {t : TypeId} {X : V} {p : Value} (hX : RelV P G ob w X p) {lo hi : Option V} {blo bhi : Option Value}
    (rlo : ∀ x, lo = some x → ∃ p, blo = some p ∧ RelV P G ob w x p) (nlo : lo = none → blo = none) (rhi : ∀ x, hi = some x → ∃ p, bhi = some p ∧ RelV P G ob w x p) (nhi : hi = none → bhi = none)
    {c : Option Bool} {v : V} (h : sliceV P ob t X lo hi = some (c, v)) (hc : ∀ x, c = some x → x = true) : ∃ u, (Instr.sliceAt t p blo bhi none).run P w = .ok u w ∧ RelV P G ob w v u := by
  unfold sliceV at h
  split at h
  · rename_i s hu
    simp only [RelV] at hX
    subst hX
    obtain ⟨q1, q2, q3⟩ := bounds_of rlo nlo rhi nhi s.size
    split at h
    · obtain ⟨rfl, rfl⟩ := Prod.mk.inj (Option.some.inj h)
      obtain ⟨a, b, c⟩ := q1 _ _ rfl rfl (hc _ rfl)
      exact ⟨_, run_slice_str hu s (Nat.zero_le _) a b c, by simp only [RelV]⟩
    · obtain ⟨rfl, rfl⟩ := Prod.mk.inj (Option.some.inj h)
      obtain ⟨a, b, c⟩ := q2 _ _ rfl rfl (hc _ rfl)
      exact ⟨_, run_slice_str hu s a (Nat.le_refl _) b c, by simp only [RelV]⟩
    · obtain ⟨rfl, rfl⟩ := Prod.mk.inj (Option.some.inj h)
      obtain ⟨a, a', b, c⟩ := q3 _ _ _ _ rfl rfl (hc _ rfl)
      exact ⟨_, run_slice_str hu s a a' b c, by simp only [RelV]⟩
    · cases h
  · rename_i e e' xs hu
    split at h
    · rename_i he
      simp only [Bool.and_eq_true] at he
      obtain rfl := beq_eq he.1
      have hT := he.2
      simp only [RelV] at hX
      obtain ⟨q1, q2, q3⟩ := bounds_of rlo nlo rhi nhi xs.length
      split at h
      · obtain ⟨rfl, rfl⟩ := Prod.mk.inj (Option.some.inj h)
        obtain ⟨a, b, c⟩ := q1 _ _ rfl rfl (hc _ rfl)
        obtain ⟨u, hr, r⟩ := part_rel hu hT hX (Nat.zero_le _) a b c
        exact ⟨u, hr, by simpa only [RelV, List.drop_zero] using r⟩
      · obtain ⟨rfl, rfl⟩ := Prod.mk.inj (Option.some.inj h)
        obtain ⟨a, b, c⟩ := q2 _ _ rfl rfl (hc _ rfl)
        obtain ⟨u, hr, r⟩ := part_rel hu hT hX a (Nat.le_refl _) b c
        exact ⟨u, hr, by simpa only [RelV, List.take_length] using r⟩
      · obtain ⟨rfl, rfl⟩ := Prod.mk.inj (Option.some.inj h)
        obtain ⟨a, a', b, c⟩ := q3 _ _ _ _ rfl rfl (hc _ rfl)
        obtain ⟨u, hr, r⟩ := part_rel hu hT hX a a' b c
        exact ⟨u, hr, by simpa only [RelV] using r⟩
      · cases h
    · cases h
  · rename_i e n g hu
    have hO := hob n
    split at h
    · rename_i e' xs g' hx
      split at h
      · rename_i hge
        simp only [Bool.and_eq_true] at hge
        obtain rfl := beq_eq hge.1
        obtain rfl := beq_eq hge.2
        simp only [RelV] at hX
        rw [hx] at hX hO
        obtain ⟨-, -, hX⟩ := hX
        obtain rfl := hX rfl
        simp only [RelO] at hO
        obtain ⟨hT, cl, ho, hE⟩ := hO
        obtain ⟨q1, q2, q3⟩ := bounds_of rlo nlo rhi nhi xs.length
        split at h
        · obtain ⟨rfl, rfl⟩ := Prod.mk.inj (Option.some.inj h)
          obtain ⟨a, b, c⟩ := q1 _ _ rfl rfl (hc _ rfl)
          obtain ⟨u, hr, r1, r2⟩ := view_rel hu hT ho (Nat.zero_le _) a b c
          exact ⟨u, hr, by simp only [RelV, hx]; exact ⟨r1, Nat.le_refl _, fun _ => ⟨Nat.zero_le _, a, r2⟩⟩⟩
        · obtain ⟨rfl, rfl⟩ := Prod.mk.inj (Option.some.inj h)
          obtain ⟨a, b, c⟩ := q2 _ _ rfl rfl (hc _ rfl)
          obtain ⟨u, hr, r1, r2⟩ := view_rel hu hT ho a (Nat.le_refl _) b c
          exact ⟨u, hr, by simp only [RelV, hx]; exact ⟨r1, Nat.le_refl _, fun _ => ⟨a, Nat.le_refl _, r2⟩⟩⟩
        · obtain ⟨rfl, rfl⟩ := Prod.mk.inj (Option.some.inj h)
          obtain ⟨a, a', b, c⟩ := q3 _ _ _ _ rfl rfl (hc _ rfl)
          obtain ⟨u, hr, r1, r2⟩ := view_rel hu hT ho a a' b c
          exact ⟨u, hr, by simp only [RelV, hx]; exact ⟨r1, Nat.le_refl _, fun _ => ⟨a, a', r2⟩⟩⟩
        · cases h
      · cases h
    · cases h
  · cases h

end Go.Pv

namespace Go.Pv
variable {P : Program} {G : Gh} {ob : Nat → O} {w : World}

/-- A slice whose elements read as a list. -/
def LR (P : Program) (G : Gh) (w : World) (e : TypeId) (xs : List D) (p : Value) : Prop :=
  (p = .slice none 0 0 ∧ xs = []) ∨ (∃ a cap, p = .slice (some a) 0 cap ∧ xs = [] ∧ okT P e = true) ∨ ∃ b off cap, p = .slice (some ⟨b, off, none⟩) xs.length cap ∧ xs.length ≤ cap ∧ okT P e = true ∧ ∀ i, i < xs.length → At P G w e b (off + i * csz P e) (rd xs i)

theorem lr_rep {e : TypeId} {p : Value} {xs : List D} (h : RepC P w G.ok (.sl e) p (.l xs)) : LR P G w e xs p := by
  rcases h.of_sl with ⟨rfl, he⟩ | ⟨a, cap, rfl, he, hT⟩ | ⟨b, off, cap, ys, cs, el, fz, rfl, he, hok, hb, hT, hc, hE⟩
  · exact .inl ⟨rfl, by simpa using he⟩
  · exact .inr (.inl ⟨a, cap, rfl, by simpa using he, hT⟩)
  · obtain rfl : xs = ys := by simpa using he
    refine .inr (.inr ⟨b, off, cap, rfl, hc, hT, fun i hi => ⟨hT, (hE i hi).1, fun j hj => ?_⟩⟩)
    obtain ⟨v, hv, r⟩ := (hE i hi).2 j hj
    exact ⟨v, by rw [cell_of hb, Nat.add_assoc]; exact hv, r⟩

theorem lr_own {st : Bool} {e : TypeId} {v : Value} {n : Nat} {xs : List D} {cl : List Value} (hT : okT P e = true) (hη : G.η n = v) (ho : w.ownsT st 0 e (csz P e) v xs.length cl) (hE : Elems P w G.ok e (fun k => cl[k]?) xs) : LR P G w e xs v := by
  rcases owned_head ho with ⟨rfl, hn⟩ | ⟨b, cap, rfl, hc⟩
  · exact .inl ⟨rfl, List.length_eq_zero_iff.1 hn⟩
  · exact .inr (.inr ⟨b, 0, cap, rfl, hc, hT, fun i hi => by rw [Nat.zero_add]; exact at_row hT hη (by rw [hη]; exact ho) hE hi⟩)

theorem lr_part {st : Bool} {e : TypeId} {n : Nat} {v u : Value} {xs : List D} {cl : List Value} (hT : okT P e = true) (hη : G.η n = v) (ho : w.ownsT st 0 e (csz P e) v xs.length cl) (hE : Elems P w G.ok e (fun k => cl[k]?) xs) {lo hi : Nat} (hl : lo ≤ hi) (hh : hi ≤ xs.length)
    (hv : RepV P e lo hi v u) : LR P G w e ((xs.take hi).drop lo) u := by
  have hlen : ((xs.take hi).drop lo).length = hi - lo := by simp; omega
  rcases owned_head ho with ⟨rfl, hn⟩ | ⟨b, cap, rfl, hc⟩
  · obtain rfl : xs = [] := List.length_eq_zero_iff.1 hn
    exact .inl ⟨by simpa [RepV] using hv, by simp⟩
  · obtain ⟨o, c, rfl, ho', hc'⟩ := hv
    refine .inr (.inr ⟨b, o, c, by rw [hlen], by omega, hT, fun i hi' => ?_⟩)
    rw [hlen] at hi'
    rw [rd_drop, rd_take _ _ _ (by omega), ho' (by omega), ← Nat.add_mul]
    exact at_row hT hη (by rw [hη]; exact ho) hE (by omega)

theorem listV_sound (hob : ∀ n, RelO P G ob w n (ob n)) {X : V} {p : Value} (hX : RelV P G ob w X p) {e : TypeId} {xs : List D} (h : listV ob X = some (e, xs)) : LR P G w e xs p := by
  unfold listV at h
  split at h
  · obtain ⟨rfl, rfl⟩ := Prod.mk.inj (Option.some.inj h)
    simp only [RelV] at hX
    exact lr_rep hX
  · obtain ⟨rfl, rfl⟩ := Prod.mk.inj (Option.some.inj h)
    simp only [RelV] at hX
    obtain ⟨hT, a, cap, rfl⟩ := hX
    exact .inr (.inl ⟨a, cap, rfl, rfl, hT⟩)
  · rename_i n g
    have hO := hob n
    simp only [RelV] at hX
    split at h
    · rename_i e' ys g' hx
      rw [hx] at hX hO
      split at h
      · rename_i hg
        obtain rfl := beq_eq hg
        obtain ⟨rfl, rfl⟩ := Prod.mk.inj (Option.some.inj h)
        obtain rfl := hX.2.2 rfl
        obtain ⟨hT, cl, ho, hE⟩ := hO
        exact lr_own hT rfl ho hE
      · cases h
    · rename_i e' ys g' hx
      rw [hx] at hX
      split at h
      · rename_i hg
        obtain rfl := beq_eq hg
        obtain ⟨rfl, rfl⟩ := Prod.mk.inj (Option.some.inj h)
        exact lr_rep (hX.2 rfl)
      · cases h
    · cases h
  · rename_i n g lo hi
    have hO := hob n
    simp only [RelV] at hX
    split at h
    · rename_i e' ys g' hx
      rw [hx] at hX hO
      split at h
      · rename_i hg
        obtain rfl := beq_eq hg
        obtain ⟨rfl, rfl⟩ := Prod.mk.inj (Option.some.inj h)
        obtain ⟨h1, h2, h3⟩ := hX.2.2 rfl
        obtain ⟨hT, cl, ho, hE⟩ := hO
        exact lr_part hT rfl ho hE h1 h2 h3
      · cases h
    · cases h
  · cases h


theorem lr_len {e : TypeId} {p : Value} {xs : List D} (h : LR P G w e xs p) : ∃ a cap, p = .slice a xs.length cap := by
  rcases h with ⟨rfl, rfl⟩ | ⟨a, cap, rfl, rfl, -⟩ | ⟨b, off, cap, rfl, -⟩
  · exact ⟨none, 0, rfl⟩
  · exact ⟨_, cap, rfl⟩
  · exact ⟨_, cap, rfl⟩

theorem lenV_sound (hob : ∀ n, RelO P G ob w n (ob n)) {X : V} {p : Value} (hX : RelV P G ob w X p) {n : Int} (h : lenV ob X = some n) {t e : TypeId} (hu : P.underlying t = some (.slice e)) (ty : TypeId) :
    (Builtin.len_ #[t] ty #[p]).run P w = .ok (.int .i64 n) w := by
  unfold lenV at h
  split at h
  · obtain rfl := Option.some.inj h
    simp only [RelV] at hX
    subst hX
    simp [Builtin.len_, run_underlying hu, goInt]
  · split at h
    · rename_i e xs hl
      obtain rfl := Option.some.inj h
      obtain ⟨a, cap, rfl⟩ := lr_len (listV_sound hob hX hl)
      simp [Builtin.len_, run_underlying hu, goInt]
    · cases h

theorem byte_at {e : TypeId} (he : P.underlying e = some (.int .u8)) {b o : Nat} {d : D} (h : At P G w e b o d) : w.cell? ⟨b, o, none⟩ = some (.int .u8 d.int) := by
  have hA : isA P e = false := by rw [isA_eq he]; rfl
  have hsz := (okT_len h.okT).2.2 hA
  obtain ⟨v, hv, r⟩ := h.cell 0 (by omega)
  have hk : kget (cks P e) 0 = .int .u8 := by
    have : cks P e = [.int .u8] := by
      unfold cks cksF kindOf
      simp only [he]
    rw [this]; rfl
  rw [hk, hA] at r
  simp only [D.ecell] at r
  rw [Nat.add_zero] at hv
  rw [hv]
  cases r
  rfl

theorem run_convert_bytes_mt {src dst e : TypeId} (hs : P.underlying src = some (.slice e)) (he : P.underlying e = some (.int .u8)) (a : Addr) (cap : Nat) (hd : P.underlying dst = some .string) :
    (convert src dst (.slice (some a) 0 cap)).run P w = .ok (.string (bstr [])) w := by
  rw [run_convert_bytes_string w src dst e _ 0 cap hs he hd]
  simp [Conv.bytesToString, bstr, loadCells, loadCellsFrom]
  rfl

theorem conv_bytes {src dst e : TypeId} (hs : P.underlying src = some (.slice e)) (hd : P.underlying dst = some .string) (he : P.underlying e = some (.int .u8)) {xs : List D} {p : Value} (h : LR P G w e xs p) :
    (convert src dst p).run P w = .ok (.string (bstr xs)) w := by
  rcases h with ⟨rfl, rfl⟩ | ⟨a, cap, rfl, rfl, -⟩ | ⟨b, off, cap, rfl, hc, hT, hE⟩
  · rw [run_convert_bytes_nil w src e hs he 0 0 dst hd]; rfl
  · exact run_convert_bytes_mt hs he a cap hd
  · have hA : isA P e = false := by rw [isA_eq he]; rfl
    have hsz := (okT_len hT).2.2 hA
    rw [run_convert_bytes_arg w src e hs he b off _ cap (xs.map D.int) (by simp) (fun i hi => ?_) dst hd]
    · simp [bstr, strOfNums]
    · have := byte_at he (hE i hi)
      rw [hsz, Nat.mul_one] at this
      rw [this, List.getD_eq_getElem?_getD, List.getElem?_map, rd_get hi]
      rfl

theorem convV_sound (hob : ∀ n, RelO P G ob w n (ob n)) {src dst : TypeId} {X : V} {p : Value} (hX : RelV P G ob w X p) {c : Option Bool} {v : V} (h : convV P ob src dst X = some (c, v)) :
    ∃ u, (convert src dst p).run P w = .ok u w ∧ RelV P G ob w v u := by
  unfold convV at h
  split at h
  · rename_i hs hd
    obtain ⟨rfl, rfl⟩ := Prod.mk.inj (Option.some.inj h)
    simp only [RelV] at hX ⊢
    subst hX
    simp [convert, run_underlying hs, run_underlying hd, Conv.intToInt]
  · rename_i hs hd
    obtain ⟨rfl, rfl⟩ := Prod.mk.inj (Option.some.inj h)
    simp only [RelV] at hX ⊢
    subst hX
    simp [convert, run_underlying hs, run_underlying hd]
  · rename_i e hs hd
    split at h
    · rename_i he
      obtain ⟨rfl, rfl⟩ := Prod.mk.inj (Option.some.inj h)
      simp only [RelV] at hX
      exact ⟨_, conv_bytes (G := G) hs hd he (.inl ⟨hX, rfl⟩), by simp only [RelV]; rfl⟩
    · rename_i he _
      split at h
      · rename_i e' xs hl
        split at h
        · rename_i hee
          obtain rfl := beq_eq hee
          obtain ⟨rfl, rfl⟩ := Prod.mk.inj (Option.some.inj h)
          exact ⟨_, conv_bytes hs hd he (listV_sound hob hX hl), by simp only [RelV]⟩
        · cases h
      · cases h
    · cases h
  · cases h

theorem maxV_sound {xs : List V} {ps : List Value} (h : RelVs P G ob w xs ps) {v : V} (hm : maxV xs = some v) (ts : Array TypeId) (t : TypeId) : ∃ u, (Builtin.max_ ts t ps.toArray).run P w = .ok u w ∧ RelV P G ob w v u := by
  unfold maxV at hm
  split at hm
  · split at hm
    · rename_i k x k' y hk
      obtain rfl := ikEq_eq hk
      obtain rfl := Option.some.inj hm
      match ps, h with
      | [p, q], h =>
        simp only [RelVs, RelV] at h
        obtain ⟨rfl, rfl, -⟩ := h
        exact ⟨_, rfl, by simp only [RelV]⟩
    · cases hm
  · split at hm
    · rename_i k x k' y k'' u hk
      simp only [Bool.and_eq_true] at hk
      obtain rfl := ikEq_eq hk.1
      obtain rfl := ikEq_eq hk.2
      obtain rfl := Option.some.inj hm
      match ps, h with
      | [p, q, r], h =>
        simp only [RelVs, RelV] at h
        obtain ⟨rfl, rfl, rfl, -⟩ := h
        exact ⟨_, rfl, by simp only [RelV]⟩
    · cases hm
  · cases hm

theorem minV_sound {xs : List V} {ps : List Value} (h : RelVs P G ob w xs ps) {v : V} (hm : minV xs = some v) (ts : Array TypeId) (t : TypeId) : ∃ u, (Builtin.min_ ts t ps.toArray).run P w = .ok u w ∧ RelV P G ob w v u := by
  unfold minV at hm
  split at hm
  · split at hm
    · rename_i k x k' y hk
      obtain rfl := ikEq_eq hk
      obtain rfl := Option.some.inj hm
      match ps, h with
      | [p, q], h =>
        simp only [RelVs, RelV] at h
        obtain ⟨rfl, rfl, -⟩ := h
        exact ⟨_, rfl, by simp only [RelV]⟩
    · cases hm
  · cases hm

end Go.Pv

namespace Go.Pv
variable {P : Program} {G : Gh} {ob : Nat → O} {w : World}

/-- A value of a type reads as data. -/
structure EV (P : Program) (G : Gh) (w : World) (t : TypeId) (p : Value) (d : D) : Prop where
  okT : okT P t = true
  shape : isA P t = true → ∃ ds, d = .r ds ∧ ds.length = csz P t
  size : p.cells.size = csz P t
  cell : ∀ j, j < csz P t → ∃ v, p.cells[j]? = some v ∧ RepC P w G.ok (kget (cks P t) j) v (d.ecell (isA P t) j)

theorem EV.one {t : TypeId} {p : Value} {d : D} (h : EV P G w t p d) : ∀ u ∈ p.cells, u.oneCell' = true := by
  intro u hu
  obtain ⟨j, hj, rfl⟩ := Array.mem_iff_getElem.1 hu
  obtain ⟨v, hv, r⟩ := h.cell j (by rw [← h.size]; exact hj)
  rw [Array.getElem?_eq_getElem hj] at hv
  rw [Option.some.inj hv]
  exact r.one

theorem toC_sound {k : K} {X : V} {p : Value} (hX : RelV P G ob w X p) {d : D} (h : toC ob k X = some (d, [])) : RepC P w G.ok k p d := by
  unfold toC at h
  split at h
  · split at h
    · rename_i hk
      obtain rfl := ikEq_eq hk
      obtain rfl := (Prod.mk.inj (Option.some.inj h)).1
      simp only [RelV] at hX
      subst hX
      exact .int _ _
    · cases h
  · obtain rfl := (Prod.mk.inj (Option.some.inj h)).1
    simp only [RelV] at hX
    subst hX
    exact .bool _
  · obtain rfl := (Prod.mk.inj (Option.some.inj h)).1
    simp only [RelV] at hX
    subst hX
    exact .str _
  · obtain rfl := (Prod.mk.inj (Option.some.inj h)).1
    simp only [RelV] at hX
    subst hX
    exact .nil _
  · split at h
    · rename_i hk
      obtain rfl := beq_eq hk
      obtain rfl := (Prod.mk.inj (Option.some.inj h)).1
      simpa only [RelV] using hX
    · cases h
  · simp only [RelV] at hX
    split at h
    · split at h
      · exact absurd (Prod.mk.inj (Option.some.inj h)).2 (by simp)
      · cases h
    · rename_i hx
      rw [hx] at hX
      split at h
      · rename_i hk
        simp only [Bool.and_eq_true] at hk
        obtain rfl := beq_eq hk.1
        obtain rfl := beq_eq hk.2
        obtain rfl := (Prod.mk.inj (Option.some.inj h)).1
        exact hX.2 rfl
      · cases h
    · cases h
  · cases h

theorem toCs_sound : ∀ {ks : List K} {Xs : List V} {ps : List Value} {ds : List D}, RelVs P G ob w Xs ps → toCs ob ks Xs = some (ds, []) → ps.length = ks.length ∧ ds.length = ks.length ∧ ∀ j, j < ks.length → ∃ v, ps[j]? = some v ∧ RepC P w G.ok (kget ks j) v (rd ds j)
  | [], [], [], ds, _, h => by
    obtain rfl := (Prod.mk.inj (Option.some.inj h)).1
    exact ⟨rfl, rfl, fun j hj => by simp at hj⟩
  | [], _ :: _, _, _, _, h => by cases h
  | _ :: _, [], _, _, _, h => by cases h
  | [], [], _ :: _, _, r, _ => by simp only [RelVs] at r
  | k :: ks, X :: Xs, [], _, r, _ => by simp only [RelVs] at r
  | k :: ks, X :: Xs, p :: ps, ds, r, h => by
    simp only [RelVs] at r
    unfold toCs at h
    split at h
    · rename_i d l ds' m h1 h2
      obtain ⟨rfl, he⟩ := Prod.mk.inj (Option.some.inj h)
      obtain ⟨rfl, rfl⟩ := List.append_eq_nil_iff.1 he
      obtain ⟨q1, q2, q3⟩ := toCs_sound r.2 h2
      refine ⟨by simp [q1], by simp [q2], fun j hj => ?_⟩
      cases j with
      | zero => exact ⟨p, rfl, toC_sound r.1 h1⟩
      | succ j =>
        obtain ⟨v, hv, r'⟩ := q3 j (by simpa using hj)
        exact ⟨v, by simpa using hv, r'⟩
    · cases h

theorem toT_sound {t : TypeId} {X : V} {p : Value} (hX : RelV P G ob w X p) {d : D} (h : toT P ob t X = some (d, [])) : EV P G w t p d := by
  unfold toT at h
  split at h
  · rename_i hT hA
    have hl := okT_len hT
    split at h
    · rename_i ks d'
      split at h
      · rename_i hk
        obtain rfl := ksEq_eq hk
        obtain rfl := (Prod.mk.inj (Option.some.inj h)).1
        simp only [RelV] at hX
        obtain ⟨cs, rfl, hs, ⟨ds, hd, hdl⟩, hc⟩ := hX
        refine ⟨hT, fun _ => ⟨ds, hd, by rw [hdl, hl.1]⟩, by simp [Value.cells, hs, hl.1], fun j hj => ?_⟩
        obtain ⟨v, hv, r⟩ := hc j (by rw [hl.1]; exact hj)
        exact ⟨v, hv, by rw [hA]; exact r⟩
      · cases h
    · rename_i vs
      split at h
      · rename_i ds l hcs
        obtain ⟨rfl, rfl⟩ := Prod.mk.inj (Option.some.inj h)
        simp only [RelV] at hX
        obtain ⟨cs, rfl, h1, hr⟩ := hX
        obtain ⟨q1, q2, q3⟩ := toCs_sound hr hcs
        refine ⟨hT, fun _ => ⟨ds, rfl, by rw [q2, hl.1]⟩, by simpa [Value.cells, hl.1] using q1, fun j hj => ?_⟩
        obtain ⟨v, hv, r⟩ := q3 j (by rw [hl.1]; exact hj)
        exact ⟨v, by simpa [Value.cells] using hv, by rw [hA]; exact r⟩
      · cases h
    · cases h
  · rename_i hT hA
    have hl := okT_len hT
    have hk : kindOf P t = kget (cks P t) 0 := by
      unfold cks cksF
      unfold isA at hA
      cases hu : P.underlying t with
      | none => simp [okT, hu] at hT
      | some td => rw [hu] at hA; cases td <;> simp_all [aggD, kget]
    have r := toC_sound hX h
    have hc := cells_one r.one
    refine ⟨hT, (fun h => by rw [hA] at h; cases h), (by rw [hc, hl.2.2 hA]; rfl), fun j hj => ?_⟩
    rw [hl.2.2 hA] at hj
    obtain rfl : j = 0 := by omega
    exact ⟨p, by rw [hc]; rfl, by rw [hA, ← hk]; exact r⟩
  · cases h

/-- Cells laid over cells. -/
theorem fold_get : ∀ (l : List Value) (n off : Nat) (cs : Array Value) (k : Nat),
    ((l.zipIdx n).foldl (fun cs (x : Value × Nat) => cs.setIfInBounds (off + x.2) x.1) cs).size = cs.size ∧
    ((l.zipIdx n).foldl (fun cs (x : Value × Nat) => cs.setIfInBounds (off + x.2) x.1) cs)[k]? = if off + n ≤ k ∧ k < off + n + l.length ∧ k < cs.size then l[k - (off + n)]? else cs[k]?
  | [], n, off, cs, k => ⟨rfl, by simp only [List.zipIdx_nil, List.foldl_nil, List.length_nil]; rw [if_neg (by omega)]⟩
  | x :: l, n, off, cs, k => by
    rw [List.zipIdx_cons, List.foldl_cons]
    obtain ⟨h1, h2⟩ := fold_get l (n + 1) off (cs.setIfInBounds (off + n) x) k
    refine ⟨by rw [h1]; simp, ?_⟩
    rw [h2]
    simp only [Array.size_setIfInBounds, List.length_cons]
    by_cases hk : k = off + n
    · subst hk
      rw [if_neg (by omega)]
      by_cases hc : off + n < cs.size
      · rw [if_pos (by omega)]; simp [hc]
      · rw [if_neg (by omega)]; simp [hc]
    · by_cases hc : off + (n + 1) ≤ k ∧ k < off + (n + 1) + l.length ∧ k < cs.size
      · rw [if_pos hc, if_pos (by omega)]
        have : k - (off + n) = (k - (off + (n + 1))) + 1 := by omega
        rw [this, List.getElem?_cons_succ]
      · rw [if_neg hc, if_neg (by omega), Array.getElem?_setIfInBounds_ne (by omega)]

theorem afold_get (v : Value) (off : Nat) (cs : Array Value) (k : Nat) :
    (v.cells.zipIdx.foldl (fun cs (x : Value × Nat) => cs.setIfInBounds (off + x.2) x.1) cs).size = cs.size ∧
    (v.cells.zipIdx.foldl (fun cs (x : Value × Nat) => cs.setIfInBounds (off + x.2) x.1) cs)[k]? = if off ≤ k ∧ k < off + v.cells.size ∧ k < cs.size then v.cells[k - off]? else cs[k]? := by
  rw [← Array.foldl_toList, Array.toList_zipIdx]
  have := fold_get v.cells.toList 0 off cs k
  simpa using this

theorem rd_set : ∀ (xs : List D) (i k : Nat) (d : D), i < xs.length → rd (xs.set i d) k = if k = i then d else rd xs k
  | [], i, k, d, h => by simp at h
  | x :: xs, 0, 0, d, _ => rfl
  | x :: xs, 0, k + 1, d, _ => by simp [rd]
  | x :: xs, i + 1, 0, d, _ => by simp [rd]
  | x :: xs, i + 1, k + 1, d, h => by
    have := rd_set xs i k d (by simpa using h)
    simpa [rd] using this

/-- An element that is laid into a row. -/
theorem elems_set {e : TypeId} {ok : Nat → Prop} {get get' : Nat → Option Value} {xs : List D} {i : Nat} {d : D} {p : Value} (hi : i < xs.length) (hE : Elems P w ok e get xs)
    (hs : isA P e = true → ∃ ds, d = .r ds ∧ ds.length = csz P e) (hc : ∀ j, j < csz P e → ∃ v, p.cells[j]? = some v ∧ RepC P w ok (kget (cks P e) j) v (d.ecell (isA P e) j))
    (h1 : ∀ j, j < csz P e → get' (i * csz P e + j) = p.cells[j]?) (h2 : ∀ k j, k ≠ i → k < xs.length → j < csz P e → get' (k * csz P e + j) = get (k * csz P e + j)) : Elems P w ok e get' (xs.set i d) := by
  intro k hk
  rw [List.length_set] at hk
  rw [rd_set xs i k d hi]
  by_cases hki : k = i
  · subst hki
    rw [if_pos rfl]
    exact ⟨hs, fun j hj => let ⟨v, hv, r⟩ := hc j hj; ⟨v, by rw [h1 j hj]; exact hv, r⟩⟩
  · rw [if_neg hki]
    exact ⟨(hE k hk).1, fun j hj => let ⟨v, hv, r⟩ := (hE k hk).2 j hj; ⟨v, by rw [h2 k j hki hk hj]; exact hv, r⟩⟩

theorem mul_apart {i k j s : Nat} (hj : j < s) (hne : k ≠ i) : ¬(i * s ≤ k * s + j ∧ k * s + j < i * s + s) := by
  rcases Nat.lt_or_ge k i with h | h
  · have : (k + 1) * s ≤ i * s := Nat.mul_le_mul_right _ h
    rw [Nat.add_mul] at this
    omega
  · have : (i + 1) * s ≤ k * s := Nat.mul_le_mul_right _ (by omega)
    rw [Nat.add_mul] at this
    omega

theorem fillE_sound {e : TypeId} (hT : okT P e = true) : ∀ {parts : List (Nat × V)} {qs : List (Nat × Value)} {xs ds : List D} {cells : Array Value}, qs.length = parts.length → (∀ (j : Nat) (x : Nat × V), parts[j]? = some x → ∃ q, qs[j]? = some (x.1, q) ∧ RelV P G ob w x.2 q) →
    fillE P ob e parts xs = some (ds, []) → cells.size = xs.length * csz P e → Elems P w G.ok e (fun k => cells[k]?) xs →
    ∃ cells', Instr.fill (fun i => some (i * csz P e, csz P e)) cells qs = some cells' ∧ cells'.size = ds.length * csz P e ∧ ds.length = xs.length ∧ Elems P w G.ok e (fun k => cells'[k]?) ds
  | [], qs, xs, ds, cells, hq, _, h, hs, hE => by
    obtain rfl : qs = [] := List.length_eq_zero_iff.1 hq
    obtain rfl := (Prod.mk.inj (Option.some.inj h)).1
    exact ⟨cells, rfl, hs, rfl, hE⟩
  | (i, x) :: r, qs, xs, ds, cells, hq, hr, h, hs, hE => by
    obtain ⟨q, hq0, rq⟩ := hr 0 (i, x) rfl
    obtain ⟨q0, qs, rfl⟩ : ∃ q0 qs', qs = q0 :: qs' := by
      cases qs with
      | nil => simp at hq
      | cons a b => exact ⟨a, b, rfl⟩
    obtain rfl : q0 = (i, q) := by simpa using hq0
    unfold fillE at h
    split at h
    · rename_i d l ht hi
      split at h
      · rename_i ds' m hf
        obtain ⟨rfl, he⟩ := Prod.mk.inj (Option.some.inj h)
        obtain ⟨rfl, rfl⟩ := List.append_eq_nil_iff.1 he
        have hev := toT_sound rq ht
        have hi' := blt_lt hi
        have hfit : i * csz P e + csz P e ≤ cells.size := by
          rw [hs]
          calc i * csz P e + csz P e = (i + 1) * csz P e := by rw [Nat.add_mul]; omega
            _ ≤ _ := Nat.mul_le_mul_right _ hi'
        have hg := afold_get q (i * csz P e) cells
        have hE' : Elems P w G.ok e (fun k => (q.cells.zipIdx.foldl (fun cs (x : Value × Nat) => cs.setIfInBounds (i * csz P e + x.2) x.1) cells)[k]?) (xs.set i d) := by
          refine elems_set hi' hE hev.shape hev.cell (fun j hj => ?_) (fun k j hk hkl hj => ?_)
          · rw [(hg _).2, if_pos (by rw [hev.size]; omega)]
            congr 1
            omega
          · have := mul_apart (i := i) hj hk
            rw [(hg _).2, if_neg (by rw [hev.size]; omega)]
        obtain ⟨cells', c1, c2, c3, c4⟩ := fillE_sound hT (cells := q.cells.zipIdx.foldl (fun cs (x : Value × Nat) => cs.setIfInBounds (i * csz P e + x.2) x.1) cells) (by simpa using hq) (fun j y hy => by
          obtain ⟨q', h1, h2⟩ := hr (j + 1) y (by simpa using hy)
          exact ⟨q', by simpa using h1, h2⟩) hf (by rw [(hg 0).1, hs]; simp) hE'
        refine ⟨cells', ?_, c2, by rw [c3]; simp, c4⟩
        simp only [Instr.fill]
        rw [if_neg (by simp [hev.size]; omega)]
        exact c1
      · cases h
    · cases h

end Go.Pv

namespace Go.Pv
variable {P : Program} {G : Gh} {ob : Nat → O} {w : World}

theorem okZ_rep {k : K} {v : Value} (h : okZ k v = true) (ok : Nat → Prop) : RepC P w ok k v (zK k) := by
  unfold okZ at h
  split at h <;> simp only [Bool.and_eq_true, beq_iff_eq, Bool.not_eq_true', Bool.false_eq_true] at h
  · obtain rfl := ikEq_eq h.1
    obtain rfl := h.2
    exact .int _ _
  · subst h; exact .bool _
  · rename_i x
    have : x = ByteArray.empty := by
      cases x with
      | mk data =>
        simp only at h
        have : data = #[] := Array.eq_empty_of_size_eq_zero h
        subst this
        rfl
    subst this
    exact .str _
  · exact .nil _

theorem okZs_get : ∀ {ks : List K} {vs : List Value}, okZs ks vs = true → vs.length = ks.length ∧ ∀ j, j < ks.length → ∃ v, vs[j]? = some v ∧ okZ (kget ks j) v = true
  | [], [], _ => ⟨rfl, fun j hj => by simp at hj⟩
  | [], _ :: _, h => by cases h
  | _ :: _, [], h => by cases h
  | k :: ks, v :: vs, h => by
    simp only [okZs, Bool.and_eq_true] at h
    obtain ⟨h1, h2⟩ := okZs_get h.2
    refine ⟨by simp [h1], fun j hj => ?_⟩
    cases j with
    | zero => exact ⟨v, rfl, h.1⟩
    | succ j =>
      obtain ⟨u, hu, r⟩ := h2 j (by simpa using hj)
      exact ⟨u, by simpa using hu, r⟩

theorem rd_map_zK : ∀ (ks : List K) (j : Nat), j < ks.length → rd (ks.map zK) j = zK (kget ks j)
  | [], j, h => by simp at h
  | k :: ks, 0, _ => rfl
  | k :: ks, j + 1, h => by simpa [rd, kget] using rd_map_zK ks j (by simpa using h)

theorem zeroD_sound {t : TypeId} {z : D} (h : zeroD P t = some z) : ∃ i zv, P.info? t = some i ∧ i.zero = some zv ∧ ∀ (G : Gh) (w : World), EV P G w t zv z := by
  unfold zeroD at h
  split at h
  · rename_i i hi
    split at h
    · rename_i zv hz
      split at h
      · rename_i hc
        simp only [Bool.and_eq_true] at hc
        have hl := okT_len hc.1
        obtain ⟨h1, h2⟩ := okZs_get hc.2
        refine ⟨i, zv, hi, hz, fun G w => ?_⟩
        have hsz : zv.cells.size = csz P t := by rw [← Array.length_toList, h1, hl.1]
        split at h
        · rename_i hA
          obtain rfl := Option.some.inj h
          refine ⟨hc.1, fun _ => ⟨_, rfl, by simp [hl.1]⟩, hsz, fun j hj => ?_⟩
          obtain ⟨v, hv, r⟩ := h2 j (by rw [hl.1]; exact hj)
          refine ⟨v, by simpa using hv, ?_⟩
          have := okZ_rep (P := P) (w := w) r G.ok
          rw [← rd_map_zK _ _ (by rw [hl.1]; exact hj)] at this
          rw [hA]; exact this
        · cases h
        · rename_i hA
          obtain rfl := Option.some.inj h
          refine ⟨hc.1, (fun h => by rw [hA] at h; cases h), hsz, fun j hj => ?_⟩
          obtain ⟨v, hv, r⟩ := h2 j (by rw [hl.1]; exact hj)
          have hj0 : j = 0 := by have := hl.2.2 hA; omega
          subst hj0
          have hk : kindOf P t = kget (cks P t) 0 := by
            unfold cks cksF
            unfold isA at hA
            have hT := hc.1
            cases hu : P.underlying t with
            | none => simp [okT, hu] at hT
            | some td => rw [hu] at hA; cases td <;> simp_all [aggD, kget]
          refine ⟨v, by simpa using hv, ?_⟩
          rw [hA, hk]
          exact okZ_rep r _
      · cases h
    · cases h
  · cases h

theorem kget_append : ∀ (l m : List K) (j : Nat), kget (l ++ m) j = if j < l.length then kget l j else kget m (j - l.length)
  | [], m, j => by simp
  | x :: l, m, 0 => by simp [kget]
  | x :: l, m, j + 1 => by
    have := kget_append l m j
    simp only [List.cons_append, kget, List.length_cons, this, Nat.add_lt_add_iff_right, Nat.add_sub_add_right]

theorem kget_rep : ∀ (m : Nat) (l : List K) (i j : Nat), i < m → j < l.length → kget ((List.replicate m l).flatten) (i * l.length + j) = kget l j
  | 0, l, i, j, h, _ => by omega
  | m + 1, l, 0, j, _, hj => by
    rw [List.replicate_succ, List.flatten_cons, kget_append, if_pos (by omega)]
    simp
  | m + 1, l, i + 1, j, hi, hj => by
    rw [List.replicate_succ, List.flatten_cons, kget_append, if_neg (by rw [Nat.add_mul]; omega)]
    have : (i + 1) * l.length + j - l.length = i * l.length + j := by rw [Nat.add_mul]; omega
    rw [this]
    exact kget_rep m l i j (by omega) hj

theorem rd_replicate : ∀ (m : Nat) (z : D) (i : Nat), i < m → rd (List.replicate m z) i = z
  | 0, z, i, h => by omega
  | m + 1, z, 0, _ => rfl
  | m + 1, z, i + 1, h => by simpa [List.replicate_succ, rd] using rd_replicate m z i (by omega)

theorem zeroArr_sound {t : TypeId} {m : Nat} {e : TypeId} {z : D} (hz : zeroD P e = some z) (h : zeroArr P t m e = true) : ∃ i cs, P.info? t = some i ∧ i.zero = some (.agg cs) ∧ cs.size = m * csz P e ∧ okT P e = true ∧
    (∀ u ∈ cs, u.oneCell' = true) ∧ ∀ (G : Gh) (w : World), Elems P w G.ok e (fun k => cs[k]?) (List.replicate m z) := by
  obtain ⟨ie, ze, -, -, hev⟩ := zeroD_sound hz
  have he0 := hev ⟨fun _ => True, 0, fun _ => undef⟩ default
  have hl := okT_len he0.okT
  unfold zeroArr at h
  split at h
  · rename_i i hi
    split at h
    · rename_i cs hzs
      obtain ⟨h1, h2⟩ := okZs_get h
      have hlen : ((List.replicate m (cks P e)).flatten).length = m * csz P e := by simp [hl.1]
      refine ⟨i, cs, hi, hzs, by rw [← Array.length_toList, h1, hlen], he0.okT, fun u hu => ?_, fun G w k hk => ?_⟩
      · obtain ⟨j, hj, rfl⟩ := Array.mem_iff_getElem.1 hu
        obtain ⟨v, hv, r⟩ := h2 j (by rw [← h1]; simpa using hj)
        have hv' : cs[j]? = some v := by simpa using hv
        rw [Array.getElem?_eq_getElem hj] at hv'
        rw [Option.some.inj hv']
        exact (okZ_rep (P := P) (w := default) r (fun _ => True)).one
      · rw [List.length_replicate] at hk
        have he := hev G w
        rw [rd_replicate _ _ _ hk]
        refine ⟨he.shape, fun j hj => ?_⟩
        have hlt : k * csz P e + j < m * csz P e := by
          calc k * csz P e + j < k * csz P e + csz P e := by omega
            _ = (k + 1) * csz P e := by rw [Nat.add_mul]; omega
            _ ≤ _ := Nat.mul_le_mul_right _ hk
        obtain ⟨v, hv, r⟩ := h2 (k * csz P e + j) (by rw [hlen]; exact hlt)
        refine ⟨v, by simpa using hv, ?_⟩
        have hk' := kget_rep m (cks P e) k j hk (by rw [hl.1]; exact hj)
        rw [hl.1] at hk'
        rw [hk'] at r
        -- the data are those of the element's own zero value
        obtain ⟨v', hv', r'⟩ := he.cell j hj
        have hd : (z.ecell (isA P e) j) = zK (kget (cks P e) j) := by
          have hT := he0.okT
          cases hA : isA P e with
          | true =>
            unfold zeroD at hz
            rw [hA] at hz
            repeat' split at hz
            all_goals first
              | (cases hz; done)
              | (obtain rfl := Option.some.inj hz; exact rd_map_zK _ _ (by rw [hl.1]; exact hj))
              | (exfalso; simp_all; done)
          | false =>
            have hj0 : j = 0 := by have := hl.2.2 hA; omega
            subst hj0
            have hkk : kindOf P e = kget (cks P e) 0 := by
              unfold cks cksF
              unfold isA at hA
              cases hu : P.underlying e with
              | none => simp [okT, hu] at hT
              | some td => rw [hu] at hA; cases td <;> simp_all [aggD, kget]
            unfold zeroD at hz
            rw [hA] at hz
            repeat' split at hz
            all_goals first
              | (cases hz; done)
              | (obtain rfl := Option.some.inj hz; rw [← hkk]; rfl)
              | simp_all
        rw [hd]
        exact okZ_rep r _
    · cases h
  · cases h

end Go.Pv

namespace Go.Pv
open RowKit Go.Maps Go.WideMaps
variable {P : Program} {G : Gh} {ob : Nat → O} {w : World}

theorem kind_int {t : TypeId} {k : IntKind} (h : kindOf P t = .int k) : P.underlying t = some (.int k) := by
  unfold kindOf at h
  split at h <;> first | (cases h; assumption) | cases h
theorem kind_bool {t : TypeId} (h : kindOf P t = .bool) : P.underlying t = some .bool := by
  unfold kindOf at h
  split at h <;> first | (cases h; assumption) | cases h
theorem kind_str {t : TypeId} (h : kindOf P t = .str) : P.underlying t = some .string := by
  unfold kindOf at h
  split at h <;> first | (cases h; assumption) | cases h

/-- A key or an element that is written. -/
theorem litOf_sound {t : TypeId} {X : V} {p : Value} (hX : RelV P G ob w X p) {d : D} (h : litOf (kindOf P t) X = some (d, true)) :
    Keyed P t ∧ keyOf P t p = some (litD P t d) ∧ plainElem (H := Unit) P t p = some (.lit (litD P t d), []) := by
  unfold litOf at h
  split at h
  · rename_i k k' n hk
    have hu := kind_int hk
    split at h
    · rename_i hkk
      obtain rfl := ikEq_eq hkk
      obtain ⟨rfl, hw⟩ := Prod.mk.inj (Option.some.inj h)
      simp only [RelV] at hX
      subst hX
      exact ⟨int_keyed hu, by rw [keyOf_int_mk hu hw]; simp [litD, hu, D.int], by rw [plainElem_int hu hw]; simp [litD, hu, D.int]⟩
    · cases h
  · rename_i x hk
    have hu := kind_bool hk
    obtain ⟨rfl, -⟩ := Prod.mk.inj (Option.some.inj h)
    simp only [RelV] at hX
    subst hX
    exact ⟨bool_keyed hu, by rw [keyOf_bool_mk hu]; simp [litD, hu, D.bool], by rw [plainElem_bool hu]; simp [litD, hu, D.bool]⟩
  · rename_i x hk
    have hu := kind_str hk
    obtain ⟨rfl, hw⟩ := Prod.mk.inj (Option.some.inj h)
    simp only [RelV] at hX
    subst hX
    have hs : x.size ≤ maxLen := by
      have := of_decide_eq_true hw
      simp only [maxS, maxLen] at this ⊢; omega
    exact ⟨string_keyed hu, by rw [keyOf_string_mk hu hs]; simp [litD, hu, D.str], by rw [plainElem_string hu hs]; simp [litD, hu, D.str]⟩
  · cases h

theorem litD_key (t : TypeId) (d : D) : WideAt.IsKeyLit (litD P t d) := by
  unfold litD
  split <;> simp [WideAt.IsKeyLit]

theorem mapD_isMap (k e : TypeId) : ∀ l : List (D × D), IsMap (mapD P k e l)
  | [] => isMap_empty
  | (x, y) :: r => (mapD_isMap k e r).put _ _

theorem dEq_lit {t : TypeId} (hp : isPl (kindOf P t) = true) (x y : D) : dEq (kindOf P t) x y = true ↔ litD P t x = litD P t y := by
  unfold isPl at hp
  split at hp
  · rename_i k hk
    have hu := kind_int hk
    simp [hk, dEq, litD, hu]
  · rename_i hk
    have hu := kind_bool hk
    simp [hk, dEq, litD, hu]
  · rename_i hk
    have hu := kind_str hk
    simp [hk, dEq, litD, hu, ByteArray.toList_eq]
  · cases hp

theorem mget_sound {k e : TypeId} (hk : isPl (kindOf P k) = true) (x z : D) : ∀ l : List (D × D), (mapD P k e l).atKey (litD P k x) (.lit (litD P e z)) = .lit (litD P e (mget (kindOf P k) x z l))
  | [] => rfl
  | (y, d) :: r => by
    unfold mapD mget
    cases hd : dEq (kindOf P k) x y with
    | true => rw [(dEq_lit hk x y).1 hd, atKey_put_same (mapD_isMap k e r) (litD_key k y)]; rfl
    | false =>
      rw [atKey_put_other fun h => by rw [(dEq_lit hk x y).2 h] at hd; cases hd]
      exact mget_sound hk x z r

/-- What reads as a plain element. -/
theorem plain_inv {e : TypeId} (hp : isPl (kindOf P e) = true) {v : Value} {d : D} {ps : List MemPlace} (h : plainElem (H := Unit) P e v = some (.lit (litD P e d), ps)) : RelV P G ob w (ofK (kindOf P e) d) v := by
  unfold isPl at hp
  split at hp
  · rename_i q hk
    have hu := kind_int hk
    obtain ⟨a, rfl, hz, -⟩ := plainElem_int_inv hu h
    simp only [litD, hu, Prod.mk.injEq, DataW.lit.injEq, Lit.int.injEq] at hz
    rw [hk]; simp only [ofK, RelV]
    rw [hz.1.2]
  · rename_i hk
    have hu := kind_bool hk
    unfold plainElem at h
    rw [hu] at h
    cases v <;> simp [litD, hu] at h
    rw [hk]; simp only [ofK, RelV]
    rw [h.1]
  · rename_i hk
    have hu := kind_str hk
    unfold plainElem at h
    rw [hu] at h
    cases v <;> simp [litD, hu] at h
    rw [hk]; simp only [ofK, RelV]
    rename_i s
    have : s = d.str := by
      have := h.2.1
      cases hs : d.str; cases s
      simp_all
    rw [this]
  · cases hp

theorem mapD_tidy (k e : TypeId) : ∀ l : List (D × D), Tidy (mapD P k e l)
  | [] => ⟨[], rfl, List.Pairwise.nil⟩
  | (x, y) :: r => (mapD_tidy k e r).put (litD_key k x) _
theorem mhas_sound {k e : TypeId} (hk : isPl (kindOf P k) = true) (x : D) : ∀ l : List (D × D), has (mapD P k e l) (litD P k x) = mhas (kindOf P k) x l
  | [] => rfl
  | (y, d) :: r => by
    unfold mapD mhas
    cases hd : dEq (kindOf P k) x y with
    | true => rw [(dEq_lit hk x y).1 hd, has_put_same (mapD_isMap k e r) (litD_key k y)]; rfl
    | false =>
      rw [has_put_other fun h => by rw [(dEq_lit hk x y).2 h] at hd; cases hd]
      rw [mhas_sound hk x r]; rfl
theorem mlen_sound {k e : TypeId} (hk : isPl (kindOf P k) = true) : ∀ l : List (D × D), Maps.size (mapD P k e l) = mlen (kindOf P k) l
  | [] => rfl
  | (y, d) :: r => by
    unfold mapD mlen
    rw [size_put (mapD_tidy k e r), mhas_sound hk, mlen_sound hk r]
    cases mhas (kindOf P k) y r <;> rfl
theorem lenM_sound (hob : ∀ n, RelO P G ob w n (ob n)) {X : V} {p : Value} (hX : RelV P G ob w X p) {n : Int} (h : lenM P ob X = some n) {t k e : TypeId} (hu : P.underlying t = some (.map k e)) (ty : TypeId) :
    (Builtin.len_ #[t] ty #[p]).run P w = .ok (.int .i64 n) w := by
  unfold lenM at h
  split at h
  · rename_i m
    split at h
    · rename_i k' e' l hx
      split at h
      · rename_i hk
        obtain rfl := Option.some.inj h
        have hO := hob m
        rw [hx] at hO
        obtain ⟨b, hη, es, clock, hb, F, -, hD⟩ := hO
        simp only [RelV] at hX
        rw [hx] at hX
        obtain ⟨-, b', hb', rfl⟩ := hX
        obtain rfl : b = b' := by rw [hη] at hb'; simpa using hb'
        have hs : Maps.size (mapD P k' e' l) = es.size := by
          rw [hD]
          show ((es.toList.map _).foldr DataW.insert []).length = es.size
          rw [length_sorted]; simp
        rw [mlen_sound hk] at hs
        rw [hs]
        simp [Builtin.len_, run_underlying hu, goInt, MapKept.run_getObj_map hb]
      · cases h
    · cases h
  · cases h

theorem zeroL_sound {e : TypeId} {z : D} (h : zeroL P e = some z) (w : World) : ∃ zv, (zeroValue e).run P w = .ok zv w ∧ plainElem (H := Unit) P e zv = some (.lit (litD P e z), []) := by
  unfold zeroL at h
  split at h
  · rename_i i hi
    split at h
    · rename_i v hv
      refine ⟨v, by simp [zeroValue, typeInfo, hi, hv], ?_⟩
      split at h
      · rename_i q hk hz
        obtain rfl := Option.some.inj h
        rw [hk] at hz
        cases v <;> simp [okZ] at hz
        obtain ⟨h1, rfl⟩ := hz
        obtain rfl := ikEq_eq h1
        rw [plainElem_int (kind_int hk) (by cases q <;> decide)]
        simp [litD, kind_int hk, D.int]
      · rename_i hk hz
        obtain rfl := Option.some.inj h
        rw [hk] at hz
        cases v <;> simp [okZ] at hz
        subst hz
        rw [plainElem_bool (kind_bool hk)]
        simp [litD, kind_bool hk, D.bool]
      · rename_i hk hz
        obtain rfl := Option.some.inj h
        rw [hk] at hz
        cases v <;> simp [okZ] at hz
        rename_i s
        obtain rfl : s = .empty := hz
        rw [plainElem_string (kind_str hk) (by simp [maxLen])]
        simp [litD, kind_str hk, D.str]
      · cases h
    · cases h
  · cases h

theorem lookV_sound (hob : ∀ n, RelO P G ob w n (ob n)) {t : TypeId} {M X : V} {m p : Value} (hM : RelV P G ob w M m) (hX : RelV P G ob w X p) {c : Option Bool} {v : V}
    (h : lookV P ob t M X = some (c, v)) (hc : ∀ x, c = some x → x = true) : ∃ u, (Instr.lookup t m p false).run P w = .ok u w ∧ RelV P G ob w v u := by
  unfold lookV at h
  split at h
  · rename_i k e n hu
    split at h
    · rename_i k' e' l hx
      split at h
      · rename_i d cc z ht hl hz
        simp only [Bool.and_eq_true] at ht
        obtain ⟨h1, h2, h3, h4⟩ := ht
        obtain rfl := beq_eq h1
        obtain rfl := beq_eq h2
        obtain ⟨rfl, rfl⟩ := Prod.mk.inj (Option.some.inj h)
        obtain rfl := hc _ rfl
        obtain ⟨K, hkey, -⟩ := litOf_sound hX hl
        have hO := hob n
        rw [hx] at hO
        obtain ⟨b, hη, hown⟩ := hO
        simp only [RelV] at hM
        rw [hx] at hM
        obtain ⟨-, b', hb', rfl⟩ := hM
        obtain rfl : b = b' := by rw [hη] at hb'; simpa using hb'
        obtain ⟨zv, hzr, hz'⟩ := zeroL_sound hz w
        obtain ⟨v, ps, hrun, hv⟩ := hown.lookup K hu hzr hz' hkey
        rw [mget_sound h3] at hv
        exact ⟨v, hrun, plain_inv h4 hv⟩
      · cases h
    · cases h
  · cases h

end Go.Pv

namespace Go.Pv
variable {P : Program} {G : Gh} {ob : Nat → O} {w : World}

theorem run_v {s : Sem Value} {u : Value} {w w' : World} (h : s.run P w = .ok u w') : (do pure (Next.value (← s)) : Sem Next).run P w = .ok (.value u) w' := by
  simp [h]

theorem lset_len : ∀ (vs : List V) (o : Nat) (x : V), (lset vs o x).length = vs.length
  | [], _, _ => rfl
  | _ :: xs, 0, _ => rfl
  | _ :: xs, n + 1, x => by simp [lset, lset_len xs n x]

theorem relVs_set : ∀ {vs : List V} {cs : List Value} {o : Nat} {x : V} {q : Value}, RelVs P G ob w vs cs → RelV P G ob w x q → RelVs P G ob w (lset vs o x) (cs.set o q)
  | [], [], _, _, _, _, _ => by simp only [lset, List.set_nil, RelVs]
  | [], _ :: _, _, _, _, h, _ => by simp only [RelVs] at h
  | _ :: _, [], _, _, _, h, _ => by simp only [RelVs] at h
  | v :: vs, c :: cs, 0, x, q, h, r => by
    simp only [RelVs] at h
    simp only [lset, List.set_cons_zero, RelVs]
    exact ⟨r, h.2⟩
  | v :: vs, c :: cs, o + 1, x, q, h, r => by
    simp only [RelVs] at h
    simp only [lset, List.set_cons_succ, RelVs]
    exact ⟨h.1, relVs_set h.2 r⟩

theorem relV_one {x : V} {q : Value} (h : RelV P G ob w x q) (hx : x.one = true) : q.oneCell' = true := by
  cases x <;> simp only [V.one, Bool.false_eq_true] at hx <;> simp only [RelV] at h
  all_goals first
    | (subst h; rfl)
    | exact h.one
    | exact h.1
    | (obtain ⟨b, off, cs, el, fz, rfl, _⟩ := h; rfl)
    | (obtain ⟨cs, rfl, _⟩ := h; rfl)

/-- Where the fields of a struct lie. -/
def placesOf (P : Program) (fs : Array Field) : Array (Nat × Nat) := fs.map fun f => (f.offset, csz P f.type)

theorem run_mapM_list {α β : Type} (g : α → Sem β) (g' : α → β) : ∀ (l : List α), (∀ a ∈ l, (g a).run P w = .ok (g' a) w) → (l.mapM g).run P w = .ok (l.map g') w
  | [], _ => by simp
  | a :: l, h => by
    have ih := run_mapM_list g g' l (fun a ha => h a (by simp [ha]))
    simp [List.mapM_cons, h a (by simp), ih]

theorem run_places {fs : Array Field} (h : fs.toList.all (fun f => (P.info? f.type).isSome) = true) :
    (fs.mapM (fun f => do pure (f.offset, ← sizeOf f.type)) : Sem (Array (Nat × Nat))).run P w = .ok (placesOf P fs) w := by
  rw [Array.mapM_eq_mapM_toList]
  have := run_mapM_list (P := P) (w := w) (fun f : Field => (do pure (f.offset, ← sizeOf f.type) : Sem (Nat × Nat))) (fun f => (f.offset, csz P f.type)) fs.toList (fun f hf => by
    have := List.all_eq_true.1 h f hf
    obtain ⟨i, hi⟩ := Option.isSome_iff_exists.1 this
    simp [run_sizeOf' hi, csz_info hi])
  rw [Sem.run_map, this]
  simp only [Result.andThen_ok, placesOf]
  congr 1
  exact Array.toList_inj.1 (by simp)

theorem fillS_sound {t : TypeId} {fs : Array Field} (hu : P.underlying t = some (.struct fs)) : ∀ {parts : List (Nat × V)} {qs : List (Nat × Value)} {vs us : List V} {cells : Array Value}, qs.length = parts.length → (∀ (j : Nat) (x : Nat × V), parts[j]? = some x → sizeOkF P t x.1 = true ∧ ∃ q, qs[j]? = some (x.1, q) ∧ RelV P G ob w x.2 q) →
    fillS P t parts vs = some us → RelVs P G ob w vs cells.toList → (∀ u ∈ cells, u.oneCell' = true) →
    ∃ cells', Instr.fill ((placesOf P fs)[·]?) cells qs = some cells' ∧ RelVs P G ob w us cells'.toList ∧ (∀ u ∈ cells', u.oneCell' = true)
  | [], qs, vs, us, cells, hq, _, h, hr, h1 => by
    obtain rfl : qs = [] := List.length_eq_zero_iff.1 hq
    obtain rfl := Option.some.inj h
    exact ⟨cells, rfl, hr, h1⟩
  | (f, x) :: r, qs, vs, us, cells, hq, hp, h, hr, h1 => by
    obtain ⟨hsz, q, hq0, rq⟩ := hp 0 (f, x) rfl
    obtain ⟨q0, qs, rfl⟩ : ∃ q0 qs', qs = q0 :: qs' := by
      cases qs with
      | nil => simp at hq
      | cons a b => exact ⟨a, b, rfl⟩
    obtain rfl : q0 = (f, q) := by simpa using hq0
    unfold fillS at h
    split at h
    · rename_i o ho hone
      split at h
      · rename_i hlt
        have hq1 := relV_one rq hone
        have hqc := cells_one hq1
        have hlen := relVs_len hr
        have hlt' : o < cells.size := by have := blt_lt hlt; simp at hlen; omega
        -- the field's place
        have hplace : (placesOf P fs)[f]? = some (o, 1) := by
          unfold fieldOff at ho
          rw [hu] at ho
          unfold sizeOkF at hsz
          rw [hu] at hsz
          simp only at ho hsz
          cases hf : fs[f]? with
          | none => rw [hf] at ho; cases ho
          | some fx =>
            rw [hf] at ho hsz
            simp only at ho hsz
            split at ho
            · obtain rfl := Option.some.inj ho
              simp [placesOf, hf, beq_eq hsz]
            · cases ho
        obtain ⟨cells', c1, c2, c3⟩ := fillS_sound hu (cells := cells.setIfInBounds o q) (qs := qs) (by simpa using hq) (fun j y hy => by
          obtain ⟨h0, q', h1, h2⟩ := hp (j + 1) y (by simpa using hy)
          exact ⟨h0, q', by simpa using h1, h2⟩) h (by rw [Array.toList_setIfInBounds]; exact relVs_set hr rq) (fun u hu => by
            rcases Array.mem_or_eq_of_mem_setIfInBounds hu with h | h
            · exact h1 u h
            · rw [h]; exact hq1)
        refine ⟨cells', ?_, c2, c3⟩
        simp only [Instr.fill, hplace]
        rw [if_neg (by rw [hqc]; simp; omega)]
        have : (q.cells.zipIdx.foldl (fun cs (x : Value × Nat) => cs.setIfInBounds (o + x.2) x.1) cells) = cells.setIfInBounds o q := by
          rw [hqc]; rfl
        exact (congrArg (fun c => Instr.fill _ c qs) this).trans c1
      · cases h
    · cases h


theorem relVs_map {val : Operand → V} {ρ : Operand → Value} (hv : ∀ x, RelV P G ob w (val x) (ρ x)) : ∀ (l : List Operand), RelVs P G ob w (l.map val) (l.map ρ)
  | [] => by simp only [List.map_nil, RelVs]
  | x :: l => by simp only [List.map_cons, RelVs]; exact ⟨hv x, relVs_map hv l⟩

theorem nilE_sound {op : BinOp} {t : TypeId} {b : Nat} {p : Value} {c : Option Bool} {v : V} (h : nilE P op t b = some (c, v)) (hX : RelV P G ob w (.er b) p) (x : Operand) :
    ∃ u, (do eqGuard op t x (.const .nilIface) p .nilIface; binOp op t p .nilIface : Sem Value).run P w = .ok u w ∧ RelV P G ob w v u := by
  have hu : ∀ ms, P.underlying t = some (.interface ms) → P.underlying t = some (.interface (P.methodsAt t)) := fun ms h => by
    rw [h]; simp [Program.methodsAt, h]
  have hp : (b = 0 ∧ p = .nilIface) ∨ (Nat.beq b 0 = false ∧ ∃ tt u, p = .iface tt u) := by
    simp only [RelV] at hX
    match b, hX with
    | 0, hX => exact .inl ⟨rfl, hX.1 rfl⟩
    | 1, hX => exact .inr ⟨rfl, hX.2.1 rfl⟩
    | b + 2, hX => exact .inr ⟨rfl, _, _, hX.2.2 (by omega)⟩
  unfold nilE at h
  split at h
  · rename_i ms hm
    obtain ⟨rfl, rfl⟩ := Prod.mk.inj (Option.some.inj h)
    rcases hp with ⟨rfl, rfl⟩ | ⟨hb, tt, u, rfl⟩
    · rw [eqGuard_nil_constR]
      exact ⟨.bool true, run_eql_nil_nil w t (hu _ hm), by simp only [RelV]; rfl⟩
    · have : eqGuard .eql t x (.const .nilIface) (.iface tt u) .nilIface = pure () := rfl
      rw [this, hb]
      exact ⟨.bool false, run_eql_held_nil w t tt u (hu _ hm), by simp only [RelV]⟩
  · rename_i ms hm
    obtain ⟨rfl, rfl⟩ := Prod.mk.inj (Option.some.inj h)
    rcases hp with ⟨rfl, rfl⟩ | ⟨hb, tt, u, rfl⟩
    · rw [eqGuard_nil_constR]
      exact ⟨.bool false, run_neq_nil_nil w t (hu _ hm), by simp only [RelV]; rfl⟩
    · have : eqGuard .neq t x (.const .nilIface) (.iface tt u) .nilIface = pure () := rfl
      rw [this, hb]
      exact ⟨.bool true, run_neq_held_nil w t tt u (hu _ hm), by simp only [RelV]; rfl⟩
  · cases h

theorem ifV_sound {t : TypeId} {x : V} {q : Value} {c : Option Bool} {v : V} (h : ifV P t x = some (c, v)) (hX : RelV P G ob w x q) :
    ∃ u, (Instr.makeInterface t q).run P w = .ok u w ∧ RelV P G ob w v u := by
  have run : ∀ d, P.underlying t = some d → (∀ ms, d ≠ .interface ms) → (Instr.makeInterface t q).run P w = .ok (.iface t q) w := fun d hd hn => by
    unfold Instr.makeInterface
    rw [Sem.run_bind, run_underlying hd, Result.andThen_ok]
    cases d <;> first | rfl | exact absurd rfl (hn _)
  have any : ∀ u : Value, (∃ t' u', u = .iface t' u') → RelV P G ob w (.er 1) u := fun u hu => by
    simp only [RelV]
    exact ⟨fun h => by omega, fun _ => hu, fun h => by omega⟩
  unfold ifV at h
  split at h
  · cases h
  · split at h
    · cases h
    · cases h
    · rename_i d hd hn
      have hr := run d hn (fun ms e => hd ms e)
      split at h
      · rename_i n _
        split at h
        · rename_i hc
          rw [Bool.and_eq_true] at hc
          have h0 := of_decide_eq_true hc.1
          have h8 := of_decide_eq_true hc.2
          obtain ⟨rfl, rfl⟩ := Prod.mk.inj (Option.some.inj h)
          refine ⟨_, hr, ?_⟩
          simp only [RelV] at hX ⊢
          rw [hX]
          refine ⟨fun h => by omega, fun h => by omega, fun _ => ?_⟩
          have aux : ∀ a b : Nat, b < 8 → (2 + (a * 8 + b) - 2) / 8 = a := fun a b _ => by omega
          have e1 : (2 + (t * 8 + n.toNat) - 2) / 8 = t := aux t n.toNat (by omega)
          have e2 : (((2 + (t * 8 + n.toNat) - 2) % 8 : Nat) : Int) = n := by omega
          rw [e1, e2]
        · obtain ⟨rfl, rfl⟩ := Prod.mk.inj (Option.some.inj h)
          exact ⟨_, hr, any _ ⟨_, _, rfl⟩⟩
      · obtain ⟨rfl, rfl⟩ := Prod.mk.inj (Option.some.inj h)
        exact ⟨_, hr, any _ ⟨_, _, rfl⟩⟩

theorem pureOp_sound (hob : ∀ n, RelO P G ob w n (ob n)) {val : Operand → V} {ρ : Operand → Value} (hv : ∀ x, RelV P G ob w (val x) (ρ x)) (hcn : ∀ c, ρ (.const c) = c) {o : Oper} {c : Option Bool} {v : V}
    (h : pureOp P ob val o.op = some (c, v)) (hc : ∀ x, c = some x → x = true) : ∃ u, (execOp ρ o).run P w = .ok (.value u) w ∧ RelV P G ob w v u := by
  obtain ⟨dst, op, type, pos, after, guard⟩ := o
  unfold pureOp at h
  simp only at h
  split at h
  · rename_i x
    obtain ⟨rfl, rfl⟩ := Prod.mk.inj (Option.some.inj h)
    exact ⟨_, rfl, hv x⟩
  · rename_i x
    obtain ⟨rfl, rfl⟩ := Prod.mk.inj (Option.some.inj h)
    exact ⟨_, rfl, hv x⟩
  · rename_i op t x y yt
    split at h
    · rename_i b hn hb
      have hx := hv x
      rw [hb] at hx
      obtain rfl : y = .const .nilIface := by
        unfold isNilC at hn
        split at hn
        · rfl
        · cases hn
      obtain ⟨u, hr, r⟩ := nilE_sound (w := w) (G := G) (ob := ob) h hx x
      refine ⟨u, ?_, r⟩
      have : ρ (.const .nilIface) = .nilIface := hcn _
      exact run_v (by rw [this]; exact hr)
    · obtain ⟨u, hr, r⟩ := run_binV h hc (hv x) (hv y) x y
      exact ⟨u, run_v hr, r⟩
  · rename_i t x
    split at h
    · rename_i b hb
      obtain ⟨rfl, rfl⟩ := Prod.mk.inj (Option.some.inj h)
      have := hv x
      rw [hb] at this
      simp only [RelV] at this ⊢
      exact ⟨_, run_v (by rw [this]; rfl), rfl⟩
    · cases h
  · rename_i t x
    split at h
    · rename_i k n hb
      obtain ⟨rfl, rfl⟩ := Prod.mk.inj (Option.some.inj h)
      have := hv x
      rw [hb] at this
      simp only [RelV] at this ⊢
      exact ⟨_, run_v (by rw [this]; rfl), rfl⟩
    · cases h
  · rename_i t x f
    have hx := hv x
    split at h
    · rename_i n o q hn hq
      split at h
      · rename_i hs
        obtain ⟨rfl, rfl⟩ := Prod.mk.inj (Option.some.inj h)
        rw [hn] at hx
        obtain ⟨u, hr, r⟩ := (fieldAddr_sound hx hq).1 n o _ rfl hs
        exact ⟨u, run_v hr, r⟩
      · cases h
    · rename_i n g i j q hn hq
      split at h
      · rename_i e xs g' hx'
        split at h
        · rename_i hg
          obtain ⟨rfl, rfl⟩ := Prod.mk.inj (Option.some.inj h)
          rw [hn] at hx
          obtain ⟨u, hr, r⟩ := (fieldAddr_sound hx hq).2.1 n g i j e xs g' rfl hx' (beq_eq hg)
          exact ⟨u, run_v hr, r⟩
        · cases h
      · rename_i e xs hx'
        obtain ⟨rfl, rfl⟩ := Prod.mk.inj (Option.some.inj h)
        rw [hn] at hx
        obtain ⟨u, hr, r⟩ := (fieldAddr_sound hx hq).2.2.1 n g i j e xs rfl hx'
        exact ⟨u, run_v hr, r⟩
      · cases h
    · rename_i e d j q hn hq
      obtain ⟨rfl, rfl⟩ := Prod.mk.inj (Option.some.inj h)
      rw [hn] at hx
      obtain ⟨u, hr, r⟩ := (fieldAddr_sound hx hq).2.2.2 e d j rfl
      exact ⟨u, run_v hr, r⟩
    · cases h
  · rename_i t x
    split at h
    · rename_i td hu
      obtain ⟨u, hr, r⟩ := loadV_sound hob hu (hv x) h hc
      exact ⟨u, run_v hr, r⟩
    · cases h
  · rename_i t x y
    split at h
    · rename_i k i hi
      have hy := hv y
      rw [hi] at hy
      simp only [RelV] at hy
      obtain ⟨u, hr, r⟩ := indexV_sound hob (hv x) k h hc
      exact ⟨u, run_v (by rw [hy]; exact hr), r⟩
    · cases h
  · rename_i t x y
    split at h
    · rename_i s k i hu hs hi
      obtain ⟨rfl, rfl⟩ := Prod.mk.inj (Option.some.inj h)
      have hy := hv y
      rw [hi] at hy
      have hx := hv x
      rw [hs] at hx
      simp only [RelV] at hx hy ⊢
      obtain ⟨h0, h1, h2⟩ := inB_spec (hc _ rfl)
      have hb : s[i.toNat]? = some s[i.toNat] := getElem?_pos s i.toNat h2
      refine ⟨.int .u8 s[i.toNat].toNat, run_v ?_, ?_⟩
      · rw [hx, hy]
        simp [Instr.index, asIntOf, run_underlying hu, h0, hb]
      · congr 1
        unfold bt
        rw [List.getD_eq_getElem?_getD]
        have : s.data.toList[i.toNat]? = some s[i.toNat] := by
          rw [List.getElem?_eq_getElem (by simpa using h2)]
          rfl
        rw [this]
        rfl
    · cases h
  · rename_i x
    have hx := hv x
    split at h
    · rename_i n o hn
      split at h
      · rename_i v' hb
        obtain ⟨rfl, rfl⟩ := Prod.mk.inj (Option.some.inj h)
        rw [hn] at hx
        have hx' := hx
        simp only [RelV] at hx
        rw [hb] at hx
        obtain ⟨-, b, -, hp⟩ := hx
        refine ⟨_, ?_, hx'⟩
        simp only [execOp, hp]
        rfl
      · cases h
    · rename_i n g i j hn
      split at h
      · rename_i e xs g' hx'
        split at h
        · rename_i hg
          obtain ⟨rfl, rfl⟩ := Prod.mk.inj (Option.some.inj h)
          rw [hn] at hx
          have hx'' := hx
          simp only [RelV] at hx
          rw [hx'] at hx
          obtain ⟨b, len, cap, -, hp⟩ := hx.2.2 (beq_eq hg)
          refine ⟨_, ?_, hx''⟩
          simp only [execOp, hp]
          rfl
        · cases h
      · rename_i e xs hx'
        obtain ⟨rfl, rfl⟩ := Prod.mk.inj (Option.some.inj h)
        rw [hn] at hx
        have hx'' := hx
        simp only [RelV] at hx
        rw [hx'] at hx
        obtain ⟨-, b, -, hp⟩ := hx
        refine ⟨_, ?_, hx''⟩
        simp only [execOp, hp]
        rfl
      · cases h
    · rename_i e d j hn
      obtain ⟨rfl, rfl⟩ := Prod.mk.inj (Option.some.inj h)
      rw [hn] at hx
      have hx'' := hx
      simp only [RelV] at hx
      obtain ⟨b, off, cs, el, fz, hp, -⟩ := hx
      refine ⟨_, ?_, hx''⟩
      simp only [execOp, hp]
      rfl
    · cases h
  · rename_i t m x
    obtain ⟨u, hr, r⟩ := lookV_sound hob (hv m) (hv x) h hc
    exact ⟨u, run_v hr, r⟩
  · rename_i x j
    have hx := hv x
    split at h
    · rename_i vs hn
      split at h
      · rename_i hj
        obtain ⟨rfl, rfl⟩ := Prod.mk.inj (Option.some.inj h)
        rw [hn] at hx
        simp only [RelV] at hx
        obtain ⟨cs, hp, hr⟩ := hx
        obtain ⟨u, hu, r⟩ := relVs_get hr (blt_lt hj)
        refine ⟨u, run_v ?_, r⟩
        rw [hp]
        have hu' : cs[j]? = some u := by simpa using hu
        simp [Instr.extract, hu']
      · cases h
    · cases h
  · rename_i t x lo hi
    obtain ⟨u, hr, r⟩ := sliceV_sound (blo := lo.map ρ) (bhi := hi.map ρ) hob (hv x) (fun y hy => by
        cases lo with
        | none => cases hy
        | some z => obtain rfl := Option.some.inj hy; exact ⟨_, rfl, hv z⟩) (fun h => by cases lo <;> first | rfl | cases h) (fun y hy => by
        cases hi with
        | none => cases hy
        | some z => obtain rfl := Option.some.inj hy; exact ⟨_, rfl, hv z⟩) (fun h => by cases hi <;> first | rfl | cases h) h hc
    exact ⟨u, run_v hr, r⟩
  · rename_i src dst' x
    obtain ⟨u, hr, r⟩ := convV_sound hob (hv x) h
    exact ⟨u, run_v hr, r⟩
  · rename_i t parts
    split at h
    · rename_i fs hu
      split at h
      · rename_i zs hz hinfo hsz
        split at h
        · rename_i us hf
          obtain ⟨rfl, rfl⟩ := Prod.mk.inj (Option.some.inj h)
          unfold zeroV at hz
          split at hz
          · rename_i i hi
            split at hz
            · rename_i cs hzero _
              split at hz
              · rename_i hone
                obtain rfl : cs.toList.map cV = zs := by simpa using hz
                have hz0 : RelVs P G ob w (cs.toList.map cV) cs.toList := by
                  clear hz hf hone hzero
                  induction cs.toList with
                  | nil => simp only [List.map_nil, RelVs]
                  | cons a l ih => simp only [List.map_cons, RelVs]; exact ⟨relV_cV a, ih⟩
                obtain ⟨cells', c1, c2, c3⟩ := fillS_sound (G := G) (ob := ob) (w := w) hu (qs := parts.toList.map fun p => (p.1, ρ p.2)) (by simp) (fun j y hy => by
                  rw [List.getElem?_map] at hy
                  cases hp : parts.toList[j]? with
                  | none => rw [hp] at hy; cases hy
                  | some p =>
                    rw [hp] at hy
                    obtain rfl := Option.some.inj hy
                    exact ⟨List.all_eq_true.1 hsz p (List.mem_of_getElem? hp), ρ p.2, by simp [List.getElem?_map, hp], hv p.2⟩) hf hz0 (fun u hu => List.all_eq_true.1 hone u (by simpa using hu))
                refine ⟨.agg cells', run_v ?_, by simp only [RelV]; exact ⟨cells', rfl, c3, c2⟩⟩
                have hzv : (zeroValue t).run P w = .ok (.agg cs) w := by simp [zeroValue, typeInfo, hi, hzero]
                have hpl := run_places (P := P) (w := w) hinfo
                have e1 : (parts.map fun (i, x) => (i, ρ x)).toList = parts.toList.map fun p => (p.1, ρ p.2) := by simp
                unfold Instr.build
                simp only [Sem.run_bind, hzv, Result.andThen_ok, Value.cells, run_underlying hu]
                rw [hpl, Result.andThen_ok, e1, c1]
                rfl
              · cases hz
            · cases hz
            · exfalso
              have hz' := Option.some.inj hz
              unfold cV at hz'
              split at hz' <;> cases hz'
            · cases hz
          · cases hz
        · cases h
      · cases h
    · rename_i m e hu
      split at h
      · rename_i z hz hA
        split at h
        · rename_i ds hza hf
          obtain ⟨rfl, rfl⟩ := Prod.mk.inj (Option.some.inj h)
          obtain ⟨i, cs, hi, hzero, hsz, hT, hone, hE⟩ := zeroArr_sound hz hza
          obtain ⟨ie, hie, hse⟩ := okT_info hT
          obtain ⟨cells', c1, c2, c3, c4⟩ := fillE_sound (G := G) (ob := ob) (w := w) hT (qs := parts.toList.map fun p => (p.1, ρ p.2)) (by simp) (fun j y hy => by
            rw [List.getElem?_map] at hy
            cases hp : parts.toList[j]? with
            | none => rw [hp] at hy; cases hy
            | some p =>
              rw [hp] at hy
              obtain rfl := Option.some.inj hy
              exact ⟨ρ p.2, by simp [List.getElem?_map, hp], hv p.2⟩) hf (by rw [hsz]; simp) (hE G w)
          refine ⟨.agg cells', run_v ?_, by simp only [RelV]; exact ⟨cells', rfl, c2, hT, c4⟩⟩
          have hzv : (zeroValue t).run P w = .ok (.agg cs) w := by simp [zeroValue, typeInfo, hi, hzero]
          have e1 : (parts.map fun (i, x) => (i, ρ x)).toList = parts.toList.map fun p => (p.1, ρ p.2) := by simp
          unfold Instr.build
          simp only [Sem.run_bind, hzv, Result.andThen_ok, Value.cells, run_underlying hu, run_sizeOf' hie]
          rw [e1, ← hse, c1]
          rfl
        · cases h
      · cases h
    · cases h
  · rename_i t x
    obtain ⟨u, hr, r⟩ := ifV_sound h (hv x)
    exact ⟨u, run_v hr, r⟩
  · rename_i f first captured
    have hm : ∀ l : Array Operand, RelVs P G ob w (l.toList.map val) (l.map ρ).toList := fun l => by
      rw [Array.toList_map]
      generalize l.toList = l
      induction l with
      | nil => simp only [List.map_nil, RelVs]
      | cons x l ih => simp only [List.map_cons, RelVs]; exact ⟨hv x, ih⟩
    split at h
    · rename_i hc0
      obtain ⟨rfl, rfl⟩ := Prod.mk.inj (Option.some.inj h)
      obtain rfl : captured = #[] := by simpa using hc0
      refine ⟨.func (.func f) (first.map ρ) #[], by simp [execOp, Instr.makeFunc], ?_⟩
      simp only [RelV]
      exact ⟨_, rfl, hm first⟩
    · split at h
      · rename_i hf0
        obtain ⟨rfl, rfl⟩ := Prod.mk.inj (Option.some.inj h)
        obtain rfl : first = #[] := by simpa using hf0
        refine ⟨.func (.func f) #[] (captured.map ρ), by simp [execOp, Instr.makeFunc], ?_⟩
        simp only [RelV]
        exact ⟨_, rfl, hm captured⟩
      · cases h
  · rename_i args argTypes
    split at h
    · rename_i x t hargs ht
      have ea : args = #[x] := Array.toList_inj.1 (by rw [hargs])
      have key : ∀ n, (Builtin.len_ #[t] type #[ρ x]).run P w = .ok (.int .i64 n) w → (execOp ρ ⟨dst, .call { callee := .builtin .len, args, argTypes }, type, pos, after, guard⟩).run P w = .ok (.value (.int .i64 n)) w := by
        intro n hn
        have hl : (Builtin.len_ argTypes type #[ρ x]) = Builtin.len_ #[t] type #[ρ x] := by
          unfold Builtin.len_
          rw [ht]
          rfl
        subst ea
        simp [execOp, resolve, invoke, builtin, hl, hn]
      split at h
      · rename_i hu
        split at h
        · rename_i s hs
          obtain ⟨rfl, rfl⟩ := Prod.mk.inj (Option.some.inj h)
          have hx := hv x
          rw [hs] at hx
          simp only [RelV] at hx ⊢
          exact ⟨_, key _ (by rw [hx]; simp [Builtin.len_, run_underlying hu, goInt]), rfl⟩
        · cases h
      · rename_i e hu
        split at h
        · rename_i n hl
          obtain ⟨rfl, rfl⟩ := Prod.mk.inj (Option.some.inj h)
          exact ⟨_, key _ (lenV_sound hob (hv x) hl hu type), by simp only [RelV]⟩
        · cases h
      · rename_i k e hu
        split at h
        · rename_i n hl
          obtain ⟨rfl, rfl⟩ := Prod.mk.inj (Option.some.inj h)
          exact ⟨_, key _ (lenM_sound hob (hv x) hl hu type), by simp only [RelV]⟩
        · cases h
      · cases h
    · cases h
  · rename_i args argTypes
    split at h
    · rename_i v' hm
      obtain ⟨rfl, rfl⟩ := Prod.mk.inj (Option.some.inj h)
      obtain ⟨u, hr, r⟩ := maxV_sound (relVs_map hv args.toList) hm argTypes type
      refine ⟨u, ?_, r⟩
      have e1 : (args.toList.map ρ).toArray = args.map ρ := Array.toList_inj.1 (by simp)
      rw [e1] at hr
      simp [execOp, resolve, invoke, builtin, hr]
    · cases h
  · rename_i args argTypes
    split at h
    · rename_i v' hm
      obtain ⟨rfl, rfl⟩ := Prod.mk.inj (Option.some.inj h)
      obtain ⟨u, hr, r⟩ := minV_sound (relVs_map hv args.toList) hm argTypes type
      refine ⟨u, ?_, r⟩
      have e1 : (args.toList.map ρ).toArray = args.map ρ := Array.toList_inj.1 (by simp)
      rw [e1] at hr
      simp [execOp, resolve, invoke, builtin, hr]
    · cases h
  · cases h

end Go.Pv

namespace Go.Pv
open RowKit
/-- What the program's own variables are known to hold, all along (L), told of the blocks gs. -/
class LaidC (P : Program) where
  L : World → Prop
  gs : List Nat
  size : ∀ w, L w → ∀ k ∈ gs, k < w.heap.size
  stable : ∀ w w', L w → (∀ k ∈ gs, w'.heap[k]? = w.heap[k]?) → L w'

/-- What stays the same in a call: how many temporaries, and the blocks that data may lie in. -/
structure Ks where
  A : Nat → Prop
  W : Nat → Prop
  pv : Nat → Value
/-- And the first np temporaries hold what came in (pv): nothing writes them. -/
structure Cx where
  nt : Nat
  np : Nat
  K : Ks
abbrev Cx.A (c : Cx) := c.K.A
abbrev Cx.W (c : Cx) := c.K.W
def Cx.dn (c : Cx) (d : Nat) : Prop := d < c.nt ∧ c.np ≤ d

/-- What was there before is as it was, but for the blocks that were handed in to be written. -/
structure BelowW (W : Nat → Prop) (w w' : World) : Prop where
  os : w'.os = w.os
  tape : w'.tape = w.tape
  output : w'.output = w.output
  size : w.heap.size ≤ w'.heap.size
  block : ∀ k, k < w.heap.size → ¬ W k → w'.heap[k]? = w.heap[k]?
theorem BelowW.refl {W : Nat → Prop} (w : World) : BelowW W w w := ⟨rfl, rfl, rfl, Nat.le_refl _, fun _ _ _ => rfl⟩
theorem BelowW.grown {W : Nat → Prop} {a w w' : World} {row : Option Nat} (h : BelowW W a w) (hg : w.grownBy w' row) (hB : a.heap.size ≤ w.heap.size) (hr : ∀ k, row = some k → a.heap.size ≤ k ∨ W k) : BelowW W a w' :=
  ⟨hg.os.trans h.os, hg.tape.trans h.tape, hg.output.trans h.output, Nat.le_trans h.size hg.size, fun k hk hW => by
    rw [hg.block k (by omega) (fun e => by
      rcases hr k e.symm with h | h
      · omega
      · exact hW h)]
    exact h.block k hk hW⟩
theorem BelowW.below {w w' : World} (h : BelowW (fun _ => False) w w') : Below w.heap.size w w' := ⟨h.os, h.tape, h.output, h.size, fun k hk => h.block k hk (fun h => h)⟩

variable {P : Program} {G G' : Gh} {w w' w0 : World} {nt : Cx} {s : St} {a : Act}

structure Rel (P : Program) [LaidC P] (nt : Cx) (w0 : World) (G : Gh) (s : St) (a : Act) (w : World) : Prop where
  size : a.tmps.size = nt.nt
  eqA : G.A = nt.A
  defers : a.defers = []
  env : ∀ t, s.ge t = none → RelV P G s.ob w (s.env t) (a.tmps.getD t undef)
  ge : ∀ t j b v, s.ge t = some (j, b, v) → (a.tmps.getD j undef = .bool b → RelV P G s.ob w v (a.tmps.getD t undef)) ∧ (a.tmps.getD j undef ≠ .bool b → a.tmps.getD t undef = undef)
  kn : ∀ t b, s.kn t = some b → a.tmps.getD t undef = .bool b
  ob : ∀ n, RelO P G s.ob w n (s.ob n)
  inj : ∀ n m b, blk (G.η n) = some b → blk (G.η m) = some b → n = m
  new : ∀ n b, blk (G.η n) = some b → (w0.heap.size ≤ b ∨ nt.W b) ∧ b < w.heap.size ∧ G.A b
  N : G.N = w.heap.size
  hA : ∀ b, w0.heap.size ≤ b → G.A b
  below : BelowW nt.W w0 w
  pin : ∀ t, t < nt.np → a.tmps.getD t undef = nt.K.pv t
  laid : LaidC.L P w0
  sep : ∀ b, nt.W b → b ∉ LaidC.gs P

/-- The program's variables hold what they held. -/
theorem Rel.laidW [LaidC P] (R : Rel P nt w0 G s a w) : LaidC.L P w :=
  LaidC.stable w0 w R.laid fun k hk => R.below.block k (LaidC.size w0 R.laid k hk) fun h => R.sep k h hk

theorem getD_set {a : Act} {d : Nat} (hd : d < a.tmps.size) (u : Value) (t : Nat) : (a.put (some d) u).tmps.getD t undef = if t = d then u else a.tmps.getD t undef := by
  simp only [Act.put, Array.getD_eq_getD_getElem?]
  by_cases h : t = d
  · subst h; simp [hd]
  · rw [Array.getElem?_setIfInBounds_ne (by omega)]; simp [h]

theorem setF_get {α : Type} (f : Nat → α) (d : Nat) (v : α) (j : Nat) : setF f d v j = if j = d then v else f j := by
  unfold setF
  by_cases h : j = d
  · subst h; simp
  · have : Nat.beq j d = false := by
      cases hb : Nat.beq j d with
      | false => rfl
      | true => exact absurd (beq_eq hb) h
    simp [this, h]

theorem clr_get {ge : Nat → Option (Nat × Bool × V)} {d t j : Nat} {b : Bool} {v : V} (h : clr ge d t = some (j, b, v)) : ge t = some (j, b, v) ∧ t ≠ d ∧ j ≠ d := by
  unfold clr at h
  split at h
  · cases h
  · rename_i j' b' v' hg
    split at h
    · cases h
    · rename_i hb
      simp only [Bool.or_eq_false_iff] at hb
      obtain ⟨rfl, rfl, rfl⟩ : j' = j ∧ b' = b ∧ v' = v := by simpa using h
      refine ⟨hg, fun e => ?_, fun e => ?_⟩
      · rw [e] at hb; simp at hb
      · rw [e] at hb; simp at hb
theorem clr_none {ge : Nat → Option (Nat × Bool × V)} {d t : Nat} (h : clr ge d t = none) (hd : t ≠ d) : ge t = none ∨ ∃ b v, ge t = some (d, b, v) := by
  unfold clr at h
  split at h
  · rename_i hg; exact .inl hg
  · rename_i j b v hg
    split at h
    · rename_i hb
      simp only [Bool.or_eq_true] at hb
      rcases hb with hb | hb
      · exact absurd (beq_eq hb) hd
      · rw [beq_eq hb] at hg; exact .inr ⟨b, v, hg⟩
    · cases h

/-- A value is put into a temporary. -/
theorem Rel.put [LaidC P] (R : Rel P nt w0 G s a w) {v : V} {u : Value} (h : RelV P G s.ob w v u) : ∀ (dst : Option Nat), (∀ d, dst = some d → nt.dn d) → Rel P nt w0 G (s.put dst v) (a.put dst u) w
  | none, _ => R
  | some d, hd => by
    have hd' : d < a.tmps.size := by rw [R.size]; exact (hd d rfl).1
    refine { R with size := ?_, defers := R.defers, env := ?_, ge := ?_, kn := ?_, pin := fun t ht => by rw [getD_set hd', if_neg (by have := (hd d rfl).2; omega)]; exact R.pin t ht }
    · simp [Act.put, R.size]
    · intro t ht
      rw [getD_set hd']
      simp only [St.put] at ht ⊢
      rw [setF_get]
      by_cases htd : t = d
      · rw [if_pos htd, if_pos htd]; exact h
      · rw [if_neg htd, if_neg htd]
        unfold envC
        rcases clr_none ht htd with hg | ⟨b, v', hg⟩
        · rw [hg]; exact R.env t hg
        · rw [hg]
          simp only [Nat.beq_refl, RelV]
    · intro t j b v' hg
      obtain ⟨hg, h1, h2⟩ := clr_get hg
      rw [getD_set hd', getD_set hd', if_neg h1, if_neg h2]
      exact R.ge t j b v' hg
    · intro t b hk
      simp only [St.put] at hk
      rw [setF_get] at hk
      by_cases htd : t = d
      · rw [if_pos htd] at hk; cases hk
      · rw [if_neg htd] at hk
        rw [getD_set hd', if_neg htd]
        exact R.kn t b hk

/-- The value of an operation that is done only if a test came out so. -/
theorem Rel.putG [LaidC P] (R : Rel P nt w0 G s a w) {v : V} {u : Value} {j : Nat} {b : Bool} (h1 : a.tmps.getD j undef = .bool b → RelV P G s.ob w v u) (h2 : a.tmps.getD j undef ≠ .bool b → u = undef) :
    ∀ (dst : Option Nat), (∀ d, dst = some d → nt.dn d ∧ j ≠ d) → Rel P nt w0 G (s.putG dst j b v) (a.put dst u) w
  | none, _ => R
  | some d, hd => by
    have hd' : d < a.tmps.size := by rw [R.size]; exact (hd d rfl).1.1
    have hjd := (hd d rfl).2
    refine { R with size := ?_, defers := R.defers, env := ?_, ge := ?_, kn := ?_, pin := fun t ht => by rw [getD_set hd', if_neg (by have := (hd d rfl).1.2; omega)]; exact R.pin t ht }
    · simp [Act.put, R.size]
    · intro t ht
      rw [getD_set hd']
      simp only [St.putG] at ht ⊢
      rw [setF_get] at ht ⊢
      by_cases htd : t = d
      · rw [if_pos htd] at ht; cases ht
      · rw [if_neg htd] at ht ⊢
        rw [if_neg htd]
        unfold envC
        rcases clr_none ht htd with hg | ⟨b, v', hg⟩
        · rw [hg]; exact R.env t hg
        · rw [hg]
          simp only [Nat.beq_refl, RelV]
    · intro t j' b' v' hg
      simp only [St.putG] at hg
      rw [setF_get] at hg
      rw [getD_set hd', getD_set hd']
      by_cases htd : t = d
      · rw [if_pos htd] at hg
        obtain ⟨rfl, rfl, rfl⟩ : j = j' ∧ b = b' ∧ v = v' := by simpa using hg
        rw [if_pos htd, if_neg hjd]
        exact ⟨h1, h2⟩
      · rw [if_neg htd] at hg
        obtain ⟨hg, k1, k2⟩ := clr_get hg
        rw [if_neg k1, if_neg k2]
        exact R.ge t j' b' v' hg
    · intro t b hk
      simp only [St.putG] at hk
      rw [setF_get] at hk
      by_cases htd : t = d
      · rw [if_pos htd] at hk; cases hk
      · rw [if_neg htd] at hk
        rw [getD_set hd', if_neg htd]
        exact R.kn t b hk

/-- Memory and objects change. -/
theorem Rel.step [LaidC P] (R : Rel P nt w0 G s a w) {ob' : Nat → O} (m : Mo P G s.ob w G' ob' w') (hob : ∀ n, RelO P G' ob' w' n (ob' n)) (inj : ∀ n m b, blk (G'.η n) = some b → blk (G'.η m) = some b → n = m)
    (new : ∀ n b, blk (G'.η n) = some b → (w0.heap.size ≤ b ∨ nt.W b) ∧ b < w'.heap.size ∧ G'.A b) (hAA : G'.A = G.A) (hN : G'.N = w'.heap.size) (hA : ∀ b, w0.heap.size ≤ b → G'.A b) (below : BelowW nt.W w0 w') : Rel P nt w0 G' { s with ob := ob' } a w' where
  size := R.size
  eqA := hAA.trans R.eqA
  defers := R.defers
  env t h := (R.env t h).mono m
  ge t j b v h := ⟨fun e => ((R.ge t j b v h).1 e).mono m, (R.ge t j b v h).2⟩
  kn := R.kn
  ob := hob
  inj := inj
  new := new
  N := hN
  hA := hA
  below := below
  pin := R.pin
  laid := R.laid
  sep := R.sep

theorem frO_cons (ob : Nat → O) (n : Nat) (l : List Nat) : frO ob (n :: l) = frO (setF ob n (frz (ob n))) l := rfl

theorem elems_take {e : TypeId} {ok : Nat → Prop} {xs : List D} {cur : Array Value} {sz : Nat} (hsz : sz = csz P e) {cl : List Value} (h : cur.toList.take (xs.length * sz) = cl) (hE : Elems P w ok e (fun k => cl[k]?) xs) : Elems P w ok e (fun k => cur[0 + k]?) xs := by
  intro i hi
  refine ⟨(hE i hi).1, fun j hj => ?_⟩
  obtain ⟨v, hv, r⟩ := (hE i hi).2 j hj
  refine ⟨v, ?_, r⟩
  simp only at hv ⊢
  rw [← h, List.getElem?_take] at hv
  split at hv
  · simpa using hv
  · cases hv

/-- A slice that the call owns is given away: from now on it is only read. -/
theorem Rel.freeze1 [LaidC P] (R : Rel P nt w0 G s a w) (n : Nat) : ∃ G', Rel P nt w0 G' { s with ob := setF s.ob n (frz (s.ob n)) } a w ∧ Mo P G s.ob w G' (setF s.ob n (frz (s.ob n))) w := by
  have same : (∀ e xs g, s.ob n ≠ .row e xs g) → ∃ G', Rel P nt w0 G' { s with ob := setF s.ob n (frz (s.ob n)) } a w ∧ Mo P G s.ob w G' (setF s.ob n (frz (s.ob n))) w := by
    intro h
    have : setF s.ob n (frz (s.ob n)) = s.ob := by
      funext m
      rw [setF_get]
      split
      · rename_i e; subst e; cases hx : s.ob m <;> first | rfl | exact absurd hx (h _ _ _)
      · rfl
    rw [this]
    exact ⟨G, R, Mo.refl⟩
  cases hx : s.ob n with
  | none => rw [hx] at same; exact same (fun _ _ _ h => by cases h)
  | box v => rw [hx] at same; exact same (fun _ _ _ h => by cases h)
  | bd tb v => rw [hx] at same; exact same (fun _ _ _ h => by cases h)
  | fz e xs g => rw [hx] at same; exact same (fun _ _ _ h => by cases h)
  | arr e xs => rw [hx] at same; exact same (fun _ _ _ h => by cases h)
  | mp k e l => rw [hx] at same; exact same (fun _ _ _ h => by cases h)
  | dead => rw [hx] at same; exact same (fun _ _ _ h => by cases h)
  | row e xs g =>
    clear same
    have hO := R.ob n
    rw [hx] at hO
    obtain ⟨hT, cl, ho, hE⟩ := hO
    let G' : Gh := { G with η := setF G.η n undef }
    have hη : ∀ m, G'.η m = if m = n then undef else G.η m := fun m => setF_get _ _ _ _
    have hok : ∀ b, G.ok b → G'.ok b := fun b h => ⟨h.1, h.2.1, fun m => by
      rw [hη]; split
      · simp [undef, blk]
      · exact h.2.2 m⟩
    have hrep : RepC P w G'.ok (.sl e) (G.η n) (.l xs) := by
      rcases ho.2 with ⟨hv, hl⟩ | ⟨b, cap, cur, fz, hv, -, hb, -, hc, -, -, htake⟩
      · rw [hv, List.length_eq_zero_iff.1 hl]; exact .nil e
      · have hbn : blk (G.η n) = some b := by rw [hv]; rfl
        rw [hv]
        refine RepC.slice ⟨(R.new n b hbn).2.2, ?_, fun m => ?_⟩ hb hT hc ((elems_take rfl htake hE).mono fun b h => ⟨hok b h, rfl⟩)
        · show b < G.N; rw [R.N]; exact (R.new n b hbn).2.1
        · rw [hη]; split
          · simp [undef, blk]
          · rename_i hne; exact fun h => hne (R.inj m n b h hbn)
    have hview : ∀ lo hi v, lo ≤ hi → hi ≤ xs.length → RepV P e lo hi (G.η n) v → RepC P w G'.ok (.sl e) v (.l ((xs.take hi).drop lo)) := by
      intro lo hi v h1 h2 hV
      rcases ho.2 with ⟨hv, hl⟩ | ⟨b, cap, cur, fz, hv, -, hb, -, hc, -, -, htake⟩
      · rw [hv] at hV
        obtain rfl : v = .slice none 0 0 := hV
        obtain rfl := List.length_eq_zero_iff.1 hl
        simpa using RepC.nil e
      · have hbn : blk (G.η n) = some b := by rw [hv]; rfl
        rw [hv] at hV
        obtain ⟨off, cap', rfl, hoff, hcap⟩ := hV
        have hokb : G'.ok b := ⟨(R.new n b hbn).2.2, by show b < G.N; rw [R.N]; exact (R.new n b hbn).2.1, fun m => by
          rw [hη]; split
          · simp [undef, blk]
          · rename_i hne; exact fun h => hne (R.inj m n b h hbn)⟩
        have hE' := (elems_take rfl htake hE).mono fun b h => ⟨hok b h, rfl⟩
        have hlen : ((xs.take hi).drop lo).length = hi - lo := by simp; omega
        have := RepC.slice (P := P) (w := w) (ok := G'.ok) (e := e) (b := b) (off := off) (cap := cap') (xs := (xs.take hi).drop lo) hokb hb hT (by rw [hlen]; exact hcap) (fun i hi' => by
          rw [hlen] at hi'
          rw [rd_drop, rd_take _ _ _ (by omega), hoff (by omega)]
          obtain ⟨q1, q2⟩ := hE' (lo + i) (by omega)
          refine ⟨q1, fun j hj => ?_⟩
          obtain ⟨u, hu, r⟩ := q2 j hj
          refine ⟨u, ?_, r⟩
          rw [← hu]
          simp only [Nat.add_mul, Nat.add_assoc, Nat.zero_add])
        rw [hlen] at this
        exact this
    have mo : Mo P G s.ob w G' (setF s.ob n (frz (.row e xs g))) w := by
      refine ⟨fun b h => ⟨hok b h, rfl⟩, fun m => ?_⟩
      rw [setF_get]
      split
      · rename_i e'; subst e'; rw [hx]; exact ⟨rfl, rfl, rfl, hrep, hview⟩
      · rename_i hne
        have hm : G'.η m = G.η m := by rw [hη, if_neg hne]
        cases s.ob m <;> simp only [ChO, hm]
        · exact ⟨trivial, .inr ⟨trivial, trivial, trivial⟩⟩
        · exact ⟨trivial, trivial, trivial⟩
        · exact ⟨trivial, trivial⟩
        · exact ⟨trivial, trivial, trivial⟩
        · exact ⟨trivial, trivial⟩
    refine ⟨G', R.step mo (fun m => ?_) (fun m k b h1 h2 => ?_) (fun m b h => ?_) rfl R.N R.hA R.below, mo⟩
    · rw [setF_get]
      split
      · simp only [frz, RelO]
      · rename_i hne
        have hm : G'.η m = G.η m := by rw [hη, if_neg hne]
        have := R.ob m
        cases hy : s.ob m with
        | none => simp only [RelO]
        | fz => simp only [RelO]
        | dead => simp only [RelO]
        | box v =>
          rw [hy] at this
          obtain ⟨b, el, val, h1, h2, h3⟩ := this
          exact ⟨b, el, val, hm.trans h1, h2, h3.mono mo⟩
        | bd tb v =>
          rw [hy] at this
          obtain ⟨b, pv, val, h1, h2, h4p, h3⟩ := this
          exact ⟨b, pv, val, hm.trans h1, h2, h4p, h3.mono mo⟩
        | row e' ys g' =>
          rw [hy] at this
          obtain ⟨h1, cl', h2, h3⟩ := this
          exact ⟨h1, cl', by rw [hm]; exact h2, h3.mono mo.ok⟩
        | arr e' ys =>
          rw [hy] at this
          obtain ⟨h1, b, el, cs, h2, h3, h4, h5⟩ := this
          exact ⟨h1, b, el, cs, hm.trans h2, h3, h4, h5.mono mo.ok⟩
        | mp k' e' l =>
          rw [hy] at this
          obtain ⟨b, h2, h3⟩ := this
          exact ⟨b, hm.trans h2, h3⟩
    · rw [hη] at h1 h2
      split at h1
      · simp [undef, blk] at h1
      · split at h2
        · simp [undef, blk] at h2
        · exact R.inj m k b h1 h2
    · rw [hη] at h
      split at h
      · simp [undef, blk] at h
      · exact R.new m b h

theorem Mo.trans {G1 G2 G3 : Gh} {o1 o2 o3 : Nat → O} {w1 w2 w3 : World} (h : Mo P G1 o1 w1 G2 o2 w2) (k : Mo P G2 o2 w2 G3 o3 w3) : (∀ (x : V) (v : Value), RelV P G1 o1 w1 x v → RelV P G3 o3 w3 x v) :=
  fun x v r => (r.mono h).mono k

theorem Rel.freeze [LaidC P] : ∀ (l : List Nat) {G : Gh} {s : St}, Rel P nt w0 G s a w → ∃ G', Rel P nt w0 G' { s with ob := frO s.ob l } a w ∧ ∀ (x : V) (v : Value), RelV P G s.ob w x v → RelV P G' (frO s.ob l) w x v
  | [], G, s, R => ⟨G, R, fun _ _ h => h⟩
  | n :: l, G, s, R => by
    obtain ⟨G1, R1, m1⟩ := R.freeze1 n
    obtain ⟨G2, R2, h2⟩ := Rel.freeze l R1
    rw [frO_cons]
    exact ⟨G2, R2, fun x v h => h2 x v (h.mono m1)⟩

end Go.Pv

namespace Go.Pv
open RowKit
variable {P : Program} {G G' : Gh} {w w' w0 : World} {nt : Cx} {s : St} {a : Act}

theorem ownBlock_blk {v : Value} (h : ∀ x, v ≠ .pointer x) (h' : ∀ x, v ≠ .map x) : v.ownBlock = blk v := by
  cases v <;> first | rfl | exact absurd rfl (h _) | exact absurd rfl (h' _) | skip
  rename_i x _ _
  cases x <;> rfl

theorem ownsRow_blk {st : Bool} {e sz n : Nat} {v : Value} {cl : List Value} {base : Nat} (h : w.ownsT st base e sz v n cl) : v.ownBlock = blk v := ownBlock_blk (fun x hx => by
  rcases h.2 with ⟨h, _⟩ | ⟨g, cap, cur, fz, h, _⟩ <;> rw [h] at hx <;> cases hx) fun x hx => by
  rcases h.2 with ⟨h, _⟩ | ⟨g, cap, cur, fz, h, _⟩ <;> rw [h] at hx <;> cases hx

/-- A row is made, or changes. -/
theorem Rel.setRow [LaidC P] (R : Rel P nt w0 G s a w) {n : Nat} {e : TypeId} {xs' : List D} {g' : Nat} {v : Value} {cl : List Value} {row : Option Nat}
    (hold : s.ob n = .none ∨ ∃ xs g, s.ob n = .row e xs g ∧ (g < g' ∨ (g = g' ∧ xs'.length = xs.length ∧ v = G.η n)))
    (hT : okT P e = true) (hg : w.grownBy w' row) (hrow : ∀ b, row = some b → blk (G.η n) = some b) (hblk : ∀ b, blk v = some b → blk (G.η n) = some b ∨ w.heap.size ≤ b)
    (ho : w'.ownsT (od g') 0 e (csz P e) v xs'.length cl) (hE : Elems P w G.ok e (fun k => cl[k]?) xs') :
    ∃ G', Rel P nt w0 G' { s with ob := setF s.ob n (.row e xs' g') } a w' ∧ G'.η n = v ∧ (∀ x u, RelV P G s.ob w x u → RelV P G' (setF s.ob n (.row e xs' g')) w' x u) := by
  let G' : Gh := ⟨G.A, w'.heap.size, setF G.η n v⟩
  have hη : ∀ m, G'.η m = if m = n then v else G.η m := fun m => setF_get _ _ _ _
  have hlt : ∀ b, blk v = some b → b < w'.heap.size := fun b hb => by
    rw [← ownsRow_blk ho] at hb
    exact (ho.lt b hb).2
  have hok : ∀ b, G.ok b → G'.ok b ∧ w'.heap[b]? = w.heap[b]? := fun b h => by
    have hb : b < w.heap.size := by rw [← R.N]; exact h.2.1
    refine ⟨⟨h.1, Nat.lt_of_lt_of_le hb hg.size, fun m => ?_⟩, hg.block b hb fun e => h.2.2 n (hrow b e.symm)⟩
    rw [hη]; split
    · intro hv
      rcases hblk b hv with h' | h'
      · exact h.2.2 n h'
      · omega
    · exact h.2.2 m
  have mo : Mo P G s.ob w G' (setF s.ob n (.row e xs' g')) w' := by
    refine ⟨hok, fun m => ?_⟩
    rw [setF_get]
    split
    · rename_i e'; subst e'
      rcases hold with h | ⟨xs, g, h, h'⟩
      · rw [h]; simp only [ChO]
      · rw [h]
        refine ⟨rfl, ?_⟩
        rcases h' with h' | ⟨h1, h2, h3⟩
        · exact .inl h'
        · exact .inr ⟨h1, h2, by rw [hη, if_pos rfl, h3]⟩
    · rename_i hne
      have hm : G'.η m = G.η m := by rw [hη, if_neg hne]
      cases s.ob m <;> simp only [ChO, hm]
      · exact ⟨trivial, .inr ⟨trivial, trivial, trivial⟩⟩
      · exact ⟨trivial, trivial, trivial⟩
      · exact ⟨trivial, trivial⟩
      · exact ⟨trivial, trivial, trivial⟩
      · exact ⟨trivial, trivial⟩
  refine ⟨G', R.step mo (fun m => ?_) (fun m k b h1 h2 => ?_) (fun m b h => ?_) rfl rfl R.hA (R.below.grown hg R.below.size fun k hk => (R.new n k (hrow k hk)).1), by rw [hη, if_pos rfl], fun x u h => h.mono mo⟩
  · rw [setF_get]
    split
    · rename_i e'; subst e'
      refine ⟨hT, cl, ?_, hE.mono hok⟩
      rw [hη, if_pos rfl]; exact ho
    · rename_i hne
      have hm : G'.η m = G.η m := by rw [hη, if_neg hne]
      have hap : ∀ b, blk (G.η m) = some b → some b ≠ row := fun b hb e => hne (R.inj m n b hb (hrow b e.symm))
      have := R.ob m
      cases hy : s.ob m with
      | none => simp only [RelO]
      | fz => simp only [RelO]
      | dead => simp only [RelO]
      | box x =>
        rw [hy] at this
        obtain ⟨b, el, val, h1, h2, h3⟩ := this
        have hb : blk (G.η m) = some b := by rw [h1]; rfl
        exact ⟨b, el, val, hm.trans h1, (hg.block b (R.new m b hb).2.1 (hap b hb)).trans h2, h3.mono mo⟩
      | bd tb x =>
        rw [hy] at this
        obtain ⟨b, pv, val, h1, h2, h4p, h3⟩ := this
        have hb : blk (G.η m) = some b := by rw [h1]; rfl
        exact ⟨b, pv, val, hm.trans h1, (hg.block b (R.new m b hb).2.1 (hap b hb)).trans h2, h4p, h3.mono mo⟩
      | row e' ys g'' =>
        rw [hy] at this
        obtain ⟨h1, cl', h2, h3⟩ := this
        refine ⟨h1, cl', ?_, h3.mono hok⟩
        rw [hm]
        refine h2.kept hg ?_
        cases hb : (G.η m).ownBlock with
        | none => exact .inl rfl
        | some b => exact .inr (hap b (by rw [← ownsRow_blk h2]; exact hb))
      | arr e' ys =>
        rw [hy] at this
        obtain ⟨h1, b, el, cs, h2, h3, h4, h5⟩ := this
        have hb : blk (G.η m) = some b := by rw [h2]; rfl
        exact ⟨h1, b, el, cs, hm.trans h2, (hg.block b (R.new m b hb).2.1 (hap b hb)).trans h3, h4, h5.mono hok⟩
      | mp k' e' l =>
        rw [hy] at this
        obtain ⟨b, h1, h2⟩ := this
        have hb : blk (G.η m) = some b := by rw [h1]; rfl
        exact ⟨b, hm.trans h1, h2.kept hg (hap b hb)⟩
  · rw [hη] at h1 h2
    split at h1 <;> split at h2
    · rename_i e1 e2; rw [e1, e2]
    · rename_i e1 _
      rcases hblk b h1 with h | h
      · rw [e1]; exact R.inj n k b h h2
      · have := (R.new k b h2).2.1; omega
    · rename_i _ e2
      rcases hblk b h2 with h | h
      · rw [e2]; exact R.inj m n b h1 h
      · have := (R.new m b h1).2.1; omega
    · exact R.inj m k b h1 h2
  · rw [hη] at h
    split at h
    · refine ⟨?_, hlt b h, ?_⟩
      · rcases hblk b h with h | h
        · exact (R.new n b h).1
        · exact .inl (Nat.le_trans R.below.size h)
      · rcases hblk b h with h | h
        · exact (R.new n b h).2.2
        · exact R.hA b (Nat.le_trans R.below.size h)
    · have := R.new m b h
      exact ⟨this.1, Nat.lt_of_lt_of_le this.2.1 hg.size, this.2.2⟩

/-- An object with a header is made, or changes. -/
theorem Rel.setHd [LaidC P] (R : Rel P nt w0 G s a w) {n b : Nat} {q : Value} (hq : blk q = some b) {o' : O} {row : Option Nat}
    (hold : (s.ob n = .none ∧ row = none ∧ w.heap.size ≤ b) ∨ (((∃ y x, s.ob n = .box y ∧ o' = .box x) ∨ (∃ e ys xs, s.ob n = .arr e ys ∧ o' = .arr e xs) ∨ (∃ k e ys xs, s.ob n = .mp k e ys ∧ o' = .mp k e xs)) ∧ row = some b ∧ G.η n = q))
    (hg : w.grownBy w' row) (hlt : b < w'.heap.size) (hO : ∀ G', G'.η n = q → (∀ c, G.ok c → G'.ok c ∧ w'.heap[c]? = w.heap[c]?) → (∀ y u, RelV P G s.ob w y u → RelV P G' (setF s.ob n o') w' y u) → RelO P G' (setF s.ob n o') w' n o') :
    ∃ G', Rel P nt w0 G' { s with ob := setF s.ob n o' } a w' ∧ G'.η n = q ∧ (∀ y u, RelV P G s.ob w y u → RelV P G' (setF s.ob n o') w' y u) := by
  let G' : Gh := ⟨G.A, w'.heap.size, setF G.η n (q)⟩
  have hη : ∀ m, G'.η m = if m = n then q else G.η m := fun m => setF_get _ _ _ _
  have hrow : ∀ c, row = some c → blk (G.η n) = some c := fun c hc => by
    rcases hold with ⟨-, h, -⟩ | ⟨-, h, h'⟩
    · rw [h] at hc; cases hc
    · rw [h] at hc; obtain rfl := Option.some.inj hc; rw [h']; exact hq
  have hbl : blk (G.η n) = some b ∨ w.heap.size ≤ b := by
    rcases hold with ⟨-, -, h⟩ | ⟨-, -, h⟩
    · exact .inr h
    · exact .inl (by rw [h]; exact hq)
  have hok : ∀ c, G.ok c → G'.ok c ∧ w'.heap[c]? = w.heap[c]? := fun c h => by
    have hc : c < w.heap.size := by rw [← R.N]; exact h.2.1
    refine ⟨⟨h.1, Nat.lt_of_lt_of_le hc hg.size, fun m => ?_⟩, hg.block c hc fun e => h.2.2 n (hrow c e.symm)⟩
    rw [hη]; split
    · intro hv
      obtain rfl : b = c := Option.some.inj (hq.symm.trans hv)
      rcases hbl with h' | h'
      · exact h.2.2 n h'
      · omega
    · exact h.2.2 m
  have mo : Mo P G s.ob w G' (setF s.ob n o') w' := by
    refine ⟨hok, fun m => ?_⟩
    rw [setF_get]
    split
    · rename_i e'; subst e'
      rcases hold with ⟨h, -, -⟩ | ⟨⟨y, x, h, ho⟩ | ⟨e, ys, xs, h, ho⟩ | ⟨k, e, ys, xs, h, ho⟩, -, h'⟩
      · rw [h]; simp only [ChO]
      · rw [h, ho]; simp only [ChO]; rw [hη, if_pos rfl, h']
      · rw [h, ho]; simp only [ChO]; exact ⟨trivial, by rw [hη, if_pos rfl, h']⟩
      · rw [h, ho]; simp only [ChO]; exact ⟨trivial, trivial, by rw [hη, if_pos rfl, h']⟩
    · rename_i hne
      have hm : G'.η m = G.η m := by rw [hη, if_neg hne]
      cases s.ob m <;> simp only [ChO, hm]
      · exact ⟨trivial, .inr ⟨trivial, trivial, trivial⟩⟩
      · exact ⟨trivial, trivial, trivial⟩
      · exact ⟨trivial, trivial⟩
      · exact ⟨trivial, trivial, trivial⟩
      · exact ⟨trivial, trivial⟩
  refine ⟨G', R.step mo (fun m => ?_) (fun m k c h1 h2 => ?_) (fun m c h => ?_) rfl rfl R.hA (R.below.grown hg R.below.size fun k hk => (R.new n k (hrow k hk)).1), by rw [hη, if_pos rfl], fun x u h => h.mono mo⟩
  · rw [setF_get]
    split
    · rename_i e'; subst e'
      exact hO G' (by rw [hη, if_pos rfl]) hok fun y u h => h.mono mo
    · rename_i hne
      have hm : G'.η m = G.η m := by rw [hη, if_neg hne]
      have hap : ∀ b, blk (G.η m) = some b → some b ≠ row := fun b hb e => hne (R.inj m n b hb (hrow b e.symm))
      have := R.ob m
      cases hy : s.ob m with
      | none => simp only [RelO]
      | fz => simp only [RelO]
      | dead => simp only [RelO]
      | box x =>
        rw [hy] at this
        obtain ⟨b, el, val, h1, h2, h3⟩ := this
        have hb : blk (G.η m) = some b := by rw [h1]; rfl
        exact ⟨b, el, val, hm.trans h1, (hg.block b (R.new m b hb).2.1 (hap b hb)).trans h2, h3.mono mo⟩
      | bd tb x =>
        rw [hy] at this
        obtain ⟨b, pv, val, h1, h2, h4p, h3⟩ := this
        have hb : blk (G.η m) = some b := by rw [h1]; rfl
        exact ⟨b, pv, val, hm.trans h1, (hg.block b (R.new m b hb).2.1 (hap b hb)).trans h2, h4p, h3.mono mo⟩
      | row e' ys g'' =>
        rw [hy] at this
        obtain ⟨h1, cl', h2, h3⟩ := this
        refine ⟨h1, cl', ?_, h3.mono hok⟩
        rw [hm]
        refine h2.kept hg ?_
        cases hb : (G.η m).ownBlock with
        | none => exact .inl rfl
        | some b => exact .inr (hap b (by rw [← ownsRow_blk h2]; exact hb))
      | arr e' ys =>
        rw [hy] at this
        obtain ⟨h1, b, el, cs, h2, h3, h4, h5⟩ := this
        have hb : blk (G.η m) = some b := by rw [h2]; rfl
        exact ⟨h1, b, el, cs, hm.trans h2, (hg.block b (R.new m b hb).2.1 (hap b hb)).trans h3, h4, h5.mono hok⟩
      | mp k' e' l =>
        rw [hy] at this
        obtain ⟨b, h1, h2⟩ := this
        have hb : blk (G.η m) = some b := by rw [h1]; rfl
        exact ⟨b, hm.trans h1, h2.kept hg (hap b hb)⟩
  · rw [hη] at h1 h2
    split at h1 <;> split at h2
    · rename_i e1 e2; rw [e1, e2]
    · rename_i e1 _
      obtain rfl : b = c := Option.some.inj (hq.symm.trans h1)
      rcases hbl with h | h
      · rw [e1]; exact R.inj n k b h h2
      · have := (R.new k b h2).2.1; omega
    · rename_i _ e2
      obtain rfl : b = c := Option.some.inj (hq.symm.trans h2)
      rcases hbl with h | h
      · rw [e2]; exact R.inj m n b h1 h
      · have := (R.new m b h1).2.1; omega
    · exact R.inj m k c h1 h2
  · rw [hη] at h
    split at h
    · obtain rfl : b = c := Option.some.inj (hq.symm.trans h)
      refine ⟨?_, hlt, ?_⟩
      · rcases hbl with h | h
        · exact (R.new n b h).1
        · exact .inl (Nat.le_trans R.below.size h)
      · rcases hbl with h | h
        · exact (R.new n b h).2.2
        · exact R.hA b (Nat.le_trans R.below.size h)
    · have := R.new m c h
      exact ⟨this.1, Nat.lt_of_lt_of_le this.2.1 hg.size, this.2.2⟩

/-- A box is made, or changes. -/
theorem Rel.setPtr [LaidC P] (R : Rel P nt w0 G s a w) {n b : Nat} {o' : O} {row : Option Nat}
    (hold : (s.ob n = .none ∧ row = none ∧ w.heap.size ≤ b) ∨ (((∃ y x, s.ob n = .box y ∧ o' = .box x) ∨ ∃ e ys xs, s.ob n = .arr e ys ∧ o' = .arr e xs) ∧ row = some b ∧ G.η n = .pointer (some ⟨b, 0, none⟩)))
    (hg : w.grownBy w' row) (hlt : b < w'.heap.size) (hO : ∀ G', G'.η n = .pointer (some ⟨b, 0, none⟩) → (∀ c, G.ok c → G'.ok c ∧ w'.heap[c]? = w.heap[c]?) → (∀ y u, RelV P G s.ob w y u → RelV P G' (setF s.ob n o') w' y u) → RelO P G' (setF s.ob n o') w' n o') :
    ∃ G', Rel P nt w0 G' { s with ob := setF s.ob n o' } a w' ∧ G'.η n = .pointer (some ⟨b, 0, none⟩) ∧ (∀ y u, RelV P G s.ob w y u → RelV P G' (setF s.ob n o') w' y u) :=
  R.setHd (q := .pointer (some ⟨b, 0, none⟩)) rfl (hold.imp id fun ⟨h, h'⟩ => ⟨h.imp id Or.inl, h'⟩) hg hlt hO

/-- A map is made, or changes. -/
theorem Rel.setMap [LaidC P] (R : Rel P nt w0 G s a w) {n b : Nat} {k e : TypeId} {l : List (D × D)} {row : Option Nat}
    (hold : (s.ob n = .none ∧ row = none ∧ w.heap.size ≤ b) ∨ ((∃ ys, s.ob n = .mp k e ys) ∧ row = some b ∧ G.η n = .map (some b)))
    (hg : w.grownBy w' row) (hb : w'.ownsMap P k (plainElem P e) b l.length (mapD P k e l)) :
    ∃ G', Rel P nt w0 G' { s with ob := setF s.ob n (.mp k e l) } a w' ∧ G'.η n = .map (some b) ∧ (∀ y u, RelV P G s.ob w y u → RelV P G' (setF s.ob n (.mp k e l)) w' y u) :=
  R.setHd (q := .map (some b)) rfl (hold.imp id fun ⟨⟨y, h⟩, h'⟩ => ⟨.inr (.inr ⟨k, e, y, l, h, rfl⟩), h'⟩) hg hb.lt fun G' h1 _ _ => ⟨b, h1, hb⟩

theorem Rel.setBox [LaidC P] (R : Rel P nt w0 G s a w) {n b : Nat} {x : V} {val : Value} {el : TypeId} {row : Option Nat}
    (hold : (s.ob n = .none ∧ row = none ∧ w.heap.size ≤ b) ∨ ((∃ y, s.ob n = .box y) ∧ row = some b ∧ G.η n = .pointer (some ⟨b, 0, none⟩)))
    (hg : w.grownBy w' row) (hb : w'.heap[b]? = some (.cells val.cells el (0, 0))) (hx : RelV P G s.ob w x val) :
    ∃ G', Rel P nt w0 G' { s with ob := setF s.ob n (.box x) } a w' ∧ G'.η n = .pointer (some ⟨b, 0, none⟩) ∧ (∀ y u, RelV P G s.ob w y u → RelV P G' (setF s.ob n (.box x)) w' y u) := by
  refine R.setPtr (hold.imp id fun ⟨⟨y, h⟩, h'⟩ => ⟨.inl ⟨y, x, h, rfl⟩, h'⟩) hg ?_ fun G' h1 h2 h3 => ⟨b, el, val, h1, hb, h3 x val hx⟩
  rcases Nat.lt_or_ge b w'.heap.size with h | h
  · exact h
  · rw [Array.getElem?_eq_none h] at hb; cases hb

/-- A builder is made. -/
theorem Rel.setBd [LaidC P] (R : Rel P nt w0 G s a w) {n b : Nat} {t : TypeId} (hn : s.ob n = .none) (hb0 : w.heap.size ≤ b) (hg : w.grownBy w' none) (hb : w'.heap[b]? = some (.cells #[.pointer none, .slice none 0 0] t (0, 0))) :
    ∃ G', Rel P nt w0 G' { s with ob := setF s.ob n (.bd t .nil) } a w' ∧ G'.η n = .pointer (some ⟨b, 0, none⟩) ∧ (∀ y u, RelV P G s.ob w y u → RelV P G' (setF s.ob n (.bd t .nil)) w' y u) := by
  refine R.setPtr (.inl ⟨hn, rfl, hb0⟩) hg ?_ fun G' h1 h2 h3 => ⟨b, _, _, h1, hb, .inl rfl, by simp only [RelV]⟩
  rcases Nat.lt_or_ge b w'.heap.size with h | h
  · exact h
  · rw [Array.getElem?_eq_none h] at hb; cases hb

theorem Rel.setArr [LaidC P] (R : Rel P nt w0 G s a w) {n b : Nat} {e : TypeId} {xs : List D} {cs : Array Value} {el : TypeId} {row : Option Nat}
    (hold : (s.ob n = .none ∧ row = none ∧ w.heap.size ≤ b) ∨ ((∃ ys, s.ob n = .arr e ys) ∧ row = some b ∧ G.η n = .pointer (some ⟨b, 0, none⟩)))
    (hg : w.grownBy w' row) (hb : w'.heap[b]? = some (.cells cs el (0, 0))) (hT : okT P e = true) (hs : cs.size = xs.length * csz P e) (hE : Elems P w G.ok e (fun k => cs[k]?) xs) :
    ∃ G', Rel P nt w0 G' { s with ob := setF s.ob n (.arr e xs) } a w' ∧ G'.η n = .pointer (some ⟨b, 0, none⟩) ∧ (∀ y u, RelV P G s.ob w y u → RelV P G' (setF s.ob n (.arr e xs)) w' y u) := by
  refine R.setPtr (hold.imp id fun ⟨⟨y, h⟩, h'⟩ => ⟨.inr ⟨e, y, xs, h, rfl⟩, h'⟩) hg ?_ fun G' h1 h2 h3 => ⟨hT, b, el, cs, h1, hb, hs, hE.mono h2⟩
  rcases Nat.lt_or_ge b w'.heap.size with h | h
  · exact h
  · rw [Array.getElem?_eq_none h] at hb; cases hb

theorem mem_iff {n : Nat} : ∀ {l : List Nat}, mem n l = true ↔ n ∈ l
  | [] => by simp [mem]
  | x :: l => by
    simp only [mem, Bool.or_eq_true, mem_iff, List.mem_cons]
    constructor
    · rintro (h | h)
      · exact .inl (beq_eq h).symm
      · exact .inr h
    · rintro (h | h)
      · exact .inl (by rw [h]; exact Nat.beq_refl x)
      · exact .inr h

theorem frz_frz (o : O) : frz (frz o) = frz o := by cases o <;> rfl

theorem frO_get : ∀ (l : List Nat) (ob : Nat → O) (n : Nat), frO ob l n = if n ∈ l then frz (ob n) else ob n
  | [], ob, n => by simp [frO]
  | m :: l, ob, n => by
    rw [frO_cons, frO_get l, setF_get]
    by_cases h1 : n = m
    · subst h1
      simp only [if_true, List.mem_cons, true_or]
      split
      · exact frz_frz _
      · rfl
    · simp [h1]

theorem toC_fr {ob : Nat → O} {k : K} {X : V} {d : D} {l L : List Nat} (h : toC ob k X = some (d, l)) (hl : ∀ n ∈ l, n ∈ L) : toC (frO ob L) k X = some (d, []) := by
  unfold toC at h
  split at h
  · split at h
    · rename_i hk
      obtain ⟨rfl, rfl⟩ := Prod.mk.inj (Option.some.inj h)
      simp [toC, hk]
    · cases h
  · obtain ⟨rfl, rfl⟩ := Prod.mk.inj (Option.some.inj h); rfl
  · obtain ⟨rfl, rfl⟩ := Prod.mk.inj (Option.some.inj h); rfl
  · obtain ⟨rfl, rfl⟩ := Prod.mk.inj (Option.some.inj h); rfl
  · split at h
    · rename_i hk
      obtain ⟨rfl, rfl⟩ := Prod.mk.inj (Option.some.inj h)
      simp [toC, hk]
    · cases h
  · rename_i e n g
    split at h
    · rename_i e' xs g' hx
      split at h
      · rename_i hk
        obtain ⟨rfl, rfl⟩ := Prod.mk.inj (Option.some.inj h)
        have hn := hl n (by simp)
        simp only [toC, frO_get, if_pos hn, hx, frz, hk]
      · cases h
    · rename_i e' xs g' hx
      split at h
      · rename_i hk
        obtain ⟨rfl, rfl⟩ := Prod.mk.inj (Option.some.inj h)
        have : frO ob L n = .fz e' xs g' := by rw [frO_get, hx]; split <;> rfl
        simp only [toC, this, hk]
      · cases h
    · cases h
  · cases h

theorem toCs_fr {ob : Nat → O} {L : List Nat} : ∀ {ks : List K} {Xs : List V} {ds : List D} {l : List Nat}, toCs ob ks Xs = some (ds, l) → (∀ n ∈ l, n ∈ L) → toCs (frO ob L) ks Xs = some (ds, [])
  | [], [], ds, l, h, _ => by obtain ⟨rfl, rfl⟩ := Prod.mk.inj (Option.some.inj h); rfl
  | [], _ :: _, _, _, h, _ => by cases h
  | _ :: _, [], _, _, h, _ => by cases h
  | k :: ks, X :: Xs, ds, l, h, hl => by
    unfold toCs at h
    split at h
    · rename_i d l1 ds' l2 h1 h2
      obtain ⟨rfl, rfl⟩ := Prod.mk.inj (Option.some.inj h)
      simp only [toCs, toC_fr h1 fun n hn => hl n (by simp [hn]), toCs_fr h2 fun n hn => hl n (by simp [hn]), List.append_nil]
    · cases h

theorem toT_fr {ob : Nat → O} {t : TypeId} {X : V} {d : D} {l L : List Nat} (h : toT P ob t X = some (d, l)) (hl : ∀ n ∈ l, n ∈ L) : toT P (frO ob L) t X = some (d, []) := by
  unfold toT at h
  split at h
  · rename_i hT hA
    split at h
    · split at h
      · rename_i hk
        obtain ⟨rfl, rfl⟩ := Prod.mk.inj (Option.some.inj h)
        simp only [toT, hT, hA, hk]
      · cases h
    · split at h
      · rename_i ds l' hcs
        obtain ⟨rfl, rfl⟩ := Prod.mk.inj (Option.some.inj h)
        simp only [toT, hT, hA, toCs_fr hcs hl]
      · cases h
    · cases h
  · rename_i hT hA
    simp only [toT, hT, hA]
    exact toC_fr h hl
  · cases h

theorem fillE_fr [LaidC P] {ob : Nat → O} {e : TypeId} {L : List Nat} : ∀ {ps : List (Nat × V)} {xs ds : List D} {l : List Nat}, fillE P ob e ps xs = some (ds, l) → (∀ n ∈ l, n ∈ L) → fillE P (frO ob L) e ps xs = some (ds, [])
  | [], xs, ds, l, h, _ => by obtain ⟨rfl, rfl⟩ := Prod.mk.inj (Option.some.inj h); rfl
  | (i, x) :: r, xs, ds, l, h, hl => by
    unfold fillE at h
    split at h
    · rename_i d l1 h1 hi
      split at h
      · rename_i ds' l2 h2
        obtain ⟨rfl, rfl⟩ := Prod.mk.inj (Option.some.inj h)
        simp only [fillE, toT_fr h1 fun n hn => hl n (by simp [hn]), hi, fillE_fr h2 fun n hn => hl n (by simp [hn]), List.append_nil]
      · cases h
    · cases h

end Go.Pv
