/- A contract of the library or of a function, by hand. -/
import Derived.Test.YtajlhhejblpfcaaDoorProg
import Derived.Lib.Walk
import Derived.WalkKit
import Derived.Lib.Hide
import Derived.KernelRfl
import Derived.Lib.LaidU8
import Derived.RegionTactic
import Derived.BigCall
import Derived.BigGuard
import Derived.Below
import Derived.WideShapes
import Derived.Laws.Bits64b
set_option linter.unusedVariables false
set_option linter.unusedSimpArgs false
namespace Go.Proofs.Lx
open Go Go.RowKit
set_option maxRecDepth 100000
theorem isPow16 (w : World) : Calls Tryd.prog 100 #[.int .i64 16] w fun e w' => e = .returned (.bool true) ∧ w' = w := by
  have key : bits BinOp.and IntKind.i64 16 15 = 0 := by decide
  have key2 : bits BinOp.and IntKind.i64 16 (IntKind.i64.wrap (16 - 1)) = 0 := by decide
  go_enter Tryd.func100, Tryd.ntmps100
  go_wp2_with (simp only [key, key2])
  go_ret
  exact ⟨rfl, rfl⟩
theorem tz64 (w : World) (h : w.cell? ⟨6, 15, none⟩ = some (.int .u8 4)) : Calls Tryd.prog 108 #[.int .u64 16] w fun e w' => e = .returned (.int .i64 4) ∧ w' = w := by
  have key : IntKind.u64.wrap (bits BinOp.and IntKind.u64 16 (IntKind.u64.wrap (-16)) * 285870213051353865) / 288230376151711744 = 15 := by decide
  go_enter Tryd.func108, Tryd.ntmps108
  go_wp2_with (simp only [key])
  go_ret
  exact ⟨rfl, rfl⟩
theorem tz (w : World) (h : w.cell? ⟨6, 15, none⟩ = some (.int .u8 4)) : Calls Tryd.prog 101 #[.int .u64 16] w fun e w' => e = .returned (.int .i64 4) ∧ w' = w := by
  go_enter Tryd.func101, Tryd.ntmps101
  go_wp2_with (go_at_call 108; refine (tz64 _ h).mono ?_; rintro e w' ⟨rfl, rfl⟩)
  go_ret
  exact ⟨rfl, rfl⟩
def hexD (d : Nat) : UInt8 := UInt8.ofNat (if d < 10 then 48 + d else 87 + d)
def hexF : Nat → Nat → List UInt8
  | 0, _ => []
  | f + 1, u => if u < 16 then [hexD u] else hexF f (u / 16) ++ [hexD (u % 16)]
def digS : ByteArray := ⟨#[48, 49, 50, 51, 52, 53, 54, 55, 56, 57, 97, 98, 99, 100, 101, 102, 103, 104, 105, 106, 107, 108, 109, 110, 111, 112, 113, 114, 115, 116, 117, 118, 119, 120, 121, 122]⟩
theorem dig_get (i : Nat) (hi : i < 16) (h : i < (⟨#[48, 49, 50, 51, 52, 53, 54, 55, 56, 57, 97, 98, 99, 100, 101, 102, 103, 104, 105, 106, 107, 108, 109, 110, 111, 112, 113, 114, 115, 116, 117, 118, 119, 120, 121, 122]⟩ : ByteArray).size) : (((⟨#[48, 49, 50, 51, 52, 53, 54, 55, 56, 57, 97, 98, 99, 100, 101, 102, 103, 104, 105, 106, 107, 108, 109, 110, 111, 112, 113, 114, 115, 116, 117, 118, 119, 120, 121, 122]⟩ : ByteArray)[i]'h).toNat : Int) = ((hexD i).toNat : Int) := by
  have key : ∀ j : Fin 16, ∀ h : j.val < (⟨#[48, 49, 50, 51, 52, 53, 54, 55, 56, 57, 97, 98, 99, 100, 101, 102, 103, 104, 105, 106, 107, 108, 109, 110, 111, 112, 113, 114, 115, 116, 117, 118, 119, 120, 121, 122]⟩ : ByteArray).size, (((⟨#[48, 49, 50, 51, 52, 53, 54, 55, 56, 57, 97, 98, 99, 100, 101, 102, 103, 104, 105, 106, 107, 108, 109, 110, 111, 112, 113, 114, 115, 116, 117, 118, 119, 120, 121, 122]⟩ : ByteArray)[j.val]'h).toNat : Int) = ((hexD j.val).toNat : Int) := by decide
  exact key ⟨i, hi⟩ h
theorem bits16 (u : Nat) (hu : u < 18446744073709551616) : bits BinOp.and IntKind.u64 (u : Int) 15 = ((u % 16 : Nat) : Int) := by
  have h := bits_and_u64_nat u 15 hu (by omega)
  have e : u &&& 15 = u % 16 := Nat.and_two_pow_sub_one_eq_mod u 4
  rw [e] at h
  exact h
/-- What holds at the head of the loop: v is left, the digits L lie from j on in the block b. -/
structure HexAt (w wr : World) (u v j : Nat) (G : Nat → Int) (L : List UInt8) : Prop where
  len : L.length + j = 65
  room : v < 16 ^ (j - 57)
  all : hexF 20 u = hexF (j - 45) v ++ L
  cell : ∀ t, t < 65 → wr.cell? ⟨w.heap.size, t, none⟩ = some (.int .u8 (G t))
  fz : ∀ t, t < 65 → wr.frozen? ⟨w.heap.size, t, none⟩ = false
  tail : ∀ t (h : t < L.length), G (j + t) = ((L[t]'h).toNat : Int)
  bel : Below w.heap.size w wr
theorem HexAt.put {w wr : World} {u v j : Nat} {G : Nat → Int} {L : List UInt8} (H : HexAt w wr u v (j + 1) G L) (d : UInt8) (v' : Nat) (hr : v' < 16 ^ (j - 57)) (hall : hexF (j + 1 - 45) v = hexF (j - 45) v' ++ [d]) (z : Int) (hz : z = (d.toNat : Int)) :
    HexAt w (wr.setCell ⟨w.heap.size, j, none⟩ (.int .u8 z)) u v' j (fun t => if t = j then z else G t) (d :: L) where
  len := by have := H.len; simp only [List.length_cons]; omega
  room := hr
  all := by rw [H.all, hall]; simp
  cell := fun t ht => by
    by_cases e : t = j
    · subst e
      rw [World.cell?_setCell_same _ _ _ (H.cell t ht), if_pos rfl]
    · rw [World.cell?_setCell_other _ _ _ _ (by simp [fun h => e (Eq.symm h)]), H.cell t ht, if_neg e]
  fz := fun t ht => by rw [World.frozen?_setCell]; exact H.fz t ht
  tail := fun t ht => by
    cases t with
    | zero => simpa using hz
    | succ t =>
      have := H.tail t (by simpa using ht)
      simp only [List.getElem_cons_succ]
      rw [if_neg (by omega), show j + (t + 1) = j + 1 + t by omega]; exact this
  bel := H.bel.setCell (p := ⟨w.heap.size, j, none⟩) (Nat.le_refl _) _
theorem hexF_last (f v : Nat) (h : v < 16) : hexF (f + 1) v = [hexD v] := by
  simp only [hexF]; rw [if_pos h]
theorem HexAt.last {w wr : World} {u v j : Nat} {G : Nat → Int} {L : List UInt8} (H : HexAt w wr u v (j + 1) G L) (hv : v < 16) (hj : 45 ≤ j) :
    hexF 20 u = hexD v :: L ∧ Below w.heap.size w (wr.setCell ⟨w.heap.size, j, none⟩ (.int .u8 ((hexD v).toNat : Int))) ∧ ∀ t (h : t < (hexD v :: L).length), (wr.setCell ⟨w.heap.size, j, none⟩ (.int .u8 ((hexD v).toNat : Int))).cell? ⟨w.heap.size, j + t, none⟩ = some (.int .u8 ((((hexD v :: L)[t]'h).toNat : Nat) : Int)) := by
  have hl := H.len
  refine ⟨?_, H.bel.setCell (p := ⟨w.heap.size, j, none⟩) (Nat.le_refl _) _, fun t ht => ?_⟩
  · rw [H.all, show j + 1 - 45 = (j - 45) + 1 by omega, hexF_last _ _ hv]; rfl
  · cases t with
    | zero => rw [Nat.add_zero, World.cell?_setCell_same _ _ _ (H.cell j (by omega))]; rfl
    | succ t =>
      have ht' : t < L.length := by simpa using ht
      rw [World.cell?_setCell_other _ _ _ _ (by simp), H.cell _ (by omega), List.getElem_cons_succ, show j + (t + 1) = j + 1 + t by omega, H.tail t ht']
theorem hexF_step (f v : Nat) (h : 16 ≤ v) : hexF (f + 1) v = hexF f (v / 16) ++ [hexD (v % 16)] := by
  simp only [hexF]; rw [if_neg (by omega)]
set_option maxHeartbeats 4000000 in
theorem hexBits (u : Nat) (hu : u < 4294967296) (w : World) (h : w.cell? ⟨6, 15, none⟩ = some (.int .u8 4)) : Calls Tryd.prog 91 #[.slice none 0 0, .int .u64 u, .int .i64 16, .bool false, .bool false] w fun e w' => e = .returned (.tuple #[.slice none 0 0, .string ⟨(hexF 20 u).toArray⟩]) ∧ Below w.heap.size w w' := by
  have h7 : (w.alloc (.cells Tryd.zeroCells119 119)).cell? ⟨6, 15, none⟩ = some (.int .u8 4) := by
    rw [World.cell?_alloc_lt _ _ _ (World.block_lt_of_cell? w _ h)]; exact h
  have H7 := Lib.hid h7
  clear h7 h
  have hz : ∀ t, t < 65 → Tryd.zeroCells119[t]? = some (.int .u8 0) := by
    intro t ht
    have e : Tryd.zeroCells119 = Array.replicate 65 (.int .u8 0) := by kernel_rfl
    rw [e, Array.getElem?_replicate, if_pos ht]
  have H0 : HexAt w (w.alloc (.cells Tryd.zeroCells119 119)) u u 65 (fun _ => 0) [] := {
    len := rfl, room := by simpa using hu, all := by simp
    cell := fun t ht => by rw [World.cell?_alloc_new]; exact hz t ht
    fz := fun t _ => World.frozen?_alloc_new _ _ _ _
    tail := fun t ht => by simp at ht
    bel := (Below.refl _ _).alloc (Nat.le_refl _) _ }
  have HH := Lib.hid H0
  clear H0 hz
  go_enter Tryd.func91, Tryd.ntmps91
  go_wp2_with (first | (go_at_call 100; refine (isPow16 _).mono ?_; rintro e w' ⟨rfl, rfl⟩) | (go_at_call 101; refine (tz _ H7.out).mono ?_; rintro e w' ⟨rfl, rfl⟩))
  go_loopw [1, 13] (fun vu vi wr => ∃ (v j : Nat) (G : Nat → Int) (L : List UInt8), vu = .int .u64 v ∧ vi = .int .i64 j ∧ 58 ≤ j ∧ Hid (HexAt w wr u v j G L)) (fun _ vi _ => (intOf vi).toNat)
  case atStart => exact ⟨u, 65, _, [], rfl, rfl, by omega, HH⟩
  case round =>
    clear HH
    obtain ⟨v, j, G, L, rfl, rfl, hlo, HA⟩ := hrel
    have hlen := HA.out.len
    have hroom := HA.out.room
    have hc := HA.out.cell
    have hf := HA.out.fz
    obtain ⟨j, rfl⟩ : ∃ j', j = j' + 1 := ⟨j - 1, by omega⟩
    have hbig : v < 4294967296 := Nat.lt_of_lt_of_le hroom (Nat.le_trans (Nat.pow_le_pow_right (by omega) (show j + 1 - 57 ≤ 8 by omega)) (by decide))
    by_cases h16 : 16 ≤ v
    · have hj : 58 ≤ j := by
        apply Classical.byContradiction
        intro hn
        have : j + 1 - 57 = 1 := by omega
        rw [this] at hroom
        omega
      have hb := bits16 v (by omega)
      have HN := Lib.hid (HA.out.put (hexD (v % 16)) (v / 16) (by
        have : 16 ^ (j + 1 - 57) = 16 ^ (j - 57) * 16 := by rw [← Nat.pow_succ]; congr 1; omega
        rw [this] at hroom
        exact Nat.div_lt_of_lt_mul (by omega)) (by rw [show j + 1 - 45 = (j - 45) + 1 by omega]; exact hexF_step _ _ h16) _ rfl)
      have hc1 := hc j (by omega)
      have hf1 := hf j (by omega)
      clear hroom hc hf
      go_wp2_with (simp only [hb])
      refine ⟨⟨v / 16, j, (fun t => if t = j then ((hexD (v % 16)).toNat : Int) else G t), hexD (v % 16) :: L, by simp, rfl, hj, ?_⟩, by simp [intOf]⟩
      rw [dig_get (v % 16) (Nat.mod_lt _ (by omega))]
      exact HN
    · have hb0 : ¬ (16 : Int) ≤ (v : Int) := by omega
      have hc1 := hc j (by omega)
      have hf1 := hf j (by omega)
      have hv16 : v < 16 := by omega
      have hl := HA.out.len
      obtain ⟨e1, e2, e3⟩ := HA.out.last hv16 (by omega)
      have hcv := run_convert_bytes_back (P := Tryd.prog) (wr.setCell ⟨w.heap.size, j, none⟩ (.int .u8 ((hexD v).toNat : Int))) 25 9 5 ⟨w.heap.size, j, none⟩ (65 - j) (hexD v :: L) Tryd.underlying25 Tryd.underlying5 Tryd.underlying9 (fun t ht => (congrArg _ (Go.WideShapes.add_plain _ _ _)).trans (e3 t ht))
      rw [List.length_cons, show L.length + 1 = 65 - j by omega] at hcv
      have E1 := Lib.hid e1
      have E2 := Lib.hid e2
      clear hroom hc hf e1 e2 e3 HA hl
      have hsl : ∀ W, (Instr.sliceAt 119 (.pointer (some ⟨w.heap.size, 0, none⟩)) (some (.int .i64 (j : Int))) none none).run Tryd.prog W = .ok (.slice (some ⟨w.heap.size, j, none⟩) (65 - j) (65 - j)) W := fun W => by
        have hal : Tryd.prog.arrayLen 119 = 65 := by kernel_rfl
        rw [run_sliceAt_array_l W 119 ⟨w.heap.size, 0, none⟩ (by kernel_rfl) .i64 (j : Int) (by omega) (by rw [hal]; omega), hal]
        go_simp
        omega
      have hdg := dig_get v hv16
      go_wp2_with (simp only [hdg])
      go_ret2
      exact ⟨by rw [E1.out]; rfl, E2.out⟩
set_option maxHeartbeats 1000000 in
theorem hex74 (u : Nat) (hu : u < 4294967296) (w : World) (h : w.cell? ⟨6, 15, none⟩ = some (.int .u8 4)) : Calls Tryd.prog 75 #[.int .i64 u, .int .i64 16] w fun e w' => e = .returned (.string ⟨(hexF 20 u).toArray⟩) ∧ Below w.heap.size w w' := by
  have hw : IntKind.u64.wrap (u : Int) = (u : Int) := by rw [IntKind.wrap_u64]; omega
  have hn : ¬ (u : Int) < 0 := by omega
  go_enter Tryd.func75, Tryd.ntmps75
  go_wp2_with (go_at_call 91; refine (hexBits u hu _ h).mono ?_; rintro e w' ⟨rfl, hb⟩)
  go_ret
  exact ⟨rfl, hb⟩
theorem hexFmt (u : Nat) (hu : u < 4294967296) (w : World) (h : w.cell? ⟨6, 15, none⟩ = some (.int .u8 4)) : Calls Tryd.prog 61 #[.int .i64 u, .int .i64 16] w fun e w' => e = .returned (.string ⟨(hexF 20 u).toArray⟩) ∧ Below w.heap.size w w' := by
  go_enter Tryd.func61, Tryd.ntmps61
  go_wp2_with (go_at_call 75; refine (hex74 u hu _ h).mono ?_; rintro e w' ⟨rfl, hb⟩)
  go_ret
  exact ⟨rfl, hb⟩
end Go.Proofs.Lx
