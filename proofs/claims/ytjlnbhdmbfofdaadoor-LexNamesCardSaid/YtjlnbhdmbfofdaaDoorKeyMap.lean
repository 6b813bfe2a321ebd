/- The contract of lex.keys: it makes the set of the keys. -/
import Derived.Test.YtjlnbhdmbfofdaaDoorKeys
import Derived.Test.YtjlnbhdmbfofdaaDoorSet
namespace Go.Proofs.YtjlnbhdmbfofdaaDoor.Lx
open Go Go.Maps Go.RowKit Go.Proofs.YtjlnbhdmbfofdaaDoorW.PrintWords Go.Proofs.YtjlnbhdmbfofdaaDoorW.PrintLast Go.Proofs.YtjlnbhdmbfofdaaDoorW.PrintMore
theorem keysLen : keysL.length = 43 := rfl
theorem keysSize : ∀ s ∈ keysL, s.size ≤ maxLen := by
  intro s hs
  have h : keysL.all (fun s => decide (s.size ≤ 100)) = true := by kernel_rfl
  have := of_decide_eq_true (List.all_eq_true.1 h s hs)
  unfold maxLen
  omega
theorem keyed9 : Keyed Tryd.prog 9 := string_keyed Tryd.underlying9
theorem cellsK (W : World) (g : Nat) (cs : Array Value) (t : TypeId) (h : W.heap[g]? = some (.cells cs t (0, 0))) (j : Nat) : W.cell? ⟨g, j, none⟩ = cs[j]? := cell_of_row W g j cs t (0, 0) h
def KeysPost (w : World) (e : Ending) (w' : World) : Prop := ∃ B, e = .returned (.map (some B)) ∧ w.heap.size ≤ B ∧ w'.ownsMap Tryd.prog 9 (plainElem Tryd.prog 4) B 43 (setDat keysL) ∧ Below w.heap.size w w'
theorem keyRow (W' : World) (g : Nat) (hW : W'.heap[g]? = some (.cells (keysL.map Value.string).toArray 9 (0, 0))) (k : Nat) (hk : k < 43) : W'.cell? ⟨g, k, none⟩ = some (.string (keysL.getD k ⟨#[]⟩)) := by
  rw [cellsK W' g _ _ hW k, List.getElem?_toArray, List.getElem?_map, List.getElem?_eq_getElem (by rw [keysLen]; exact hk)]
  simp [List.getD_eq_getElem?_getD, List.getElem?_eq_getElem (show k < keysL.length by rw [keysLen]; exact hk)]
theorem take_keys (k : Nat) (hk : k < 43) : setDat (keysL.take (k + 1)) = (setDat (keysL.take k)).put (.string (keysL.getD k ⟨#[]⟩).data.toList) (.lit (.bool true)) := by
  rw [← setDat_snoc, List.take_succ_eq_append_getElem (by rw [keysLen]; exact hk)]
  simp [List.getD_eq_getElem?_getD, List.getElem?_eq_getElem (show k < keysL.length by rw [keysLen]; exact hk)]
theorem keySize (k : Nat) (hk : k < 43) : (keysL.getD k ⟨#[]⟩).size ≤ maxLen := by
  have hk' : k < keysL.length := by rw [keysLen]; exact hk
  rw [List.getD_eq_getElem?_getD, List.getElem?_eq_getElem hk']
  exact keysSize _ (List.getElem_mem hk')
set_option maxRecDepth 100000 in
theorem keys_calls (w : World) (hb : Blanks w) : Calls Tryd.prog 37 #[] w (KeysPost w) := by
  have HB := Lib.hid hb
  clear hb
  have hmm := @run_makeMap Tryd.prog
  go_enter Tryd.func37, Tryd.ntmps37
  go_wp2_with fail
  refine (Keys_calls _ (HB.out.alloc _)).mono ?_
  rintro e w' ⟨rfl, hw⟩
  clear hmm
  have hm0 := World.ownsMap_made w Tryd.prog 9 (plainElem (H := Unit) Tryd.prog 4)
  have hm1 := (hm0.alloc (.cells (keysL.map Value.string).toArray 9))
  have hrow : ((w.alloc (.map #[] 0)).alloc (.cells (keysL.map Value.string).toArray 9)).heap[(w.alloc (.map #[] 0)).heap.size]? = some (.cells (keysL.map Value.string).toArray 9 (0, 0)) := heap_alloc_new _ _
  have hbel : Below w.heap.size w ((w.alloc (.map #[] 0)).alloc (.cells (keysL.map Value.string).toArray 9)) := ((Below.refl _ _).alloc (Nat.le_refl _) _).alloc (by simp) _
  obtain ⟨G, hG⟩ : ∃ G, G = (w.alloc (.map #[] 0)).heap.size := ⟨_, rfl⟩
  have hGB : G ≠ w.heap.size := by rw [hG]; simp
  rw [← hw] at hm1 hbel hrow
  rw [← hG] at hrow ⊢
  clear hw hG hm0
  have HM := Lib.hid hm1
  have HR := Lib.hid hrow
  have HL := Lib.hid hbel
  have HN := Lib.hid hGB
  clear hm1 hrow hbel hGB
  rw [keysLen]
  go_wp2_with fail
  go_loopw [7] (fun i wr => ∃ k : Nat, k ≤ 43 ∧ i = .int .i64 k ∧ Hid (wr.ownsMap Tryd.prog 9 (plainElem (H := Unit) Tryd.prog 4) w.heap.size k (setDat (keysL.take k))) ∧ Hid (wr.heap[G]? = some (.cells (keysL.map Value.string).toArray 9 (0, 0))) ∧ Hid (Below w.heap.size w wr)) (fun i _ => 43 - (intOf i).toNat)
  case atStart => exact ⟨0, by omega, rfl, HM, HR, HL⟩
  case round =>
    obtain ⟨k, hk, rfl, hm, hr, hl⟩ := hrel
    by_cases hlt : k < 43
    · have hcell := keyRow wr G hr.out k hlt
      have ht := take_keys k hlt
      have hz := keySize k hlt
      obtain ⟨s, hs⟩ : ∃ s, s = keysL.getD k ⟨#[]⟩ := ⟨_, rfl⟩
      rw [← hs] at hcell ht hz
      clear hs
      have HT := Lib.hid ht
      have hkey := WideMaps.keyOf_string_mk Tryd.underlying9 hz
      have HK := Lib.hid hkey
      clear ht hkey
      go_wp2_with (at_mapUpdate; refine wpList_mapUpdate_own _ rfl _ _ _ 45 rfl 9 4 keyed9 Tryd.underlying45 (plainElem (H := Unit) Tryd.prog 4) w.heap.size k _ rfl hm.out (by unfold maxLen; omega) _ _ _ rfl rfl HK.out _ [] (plainElem_bool Tryd.underlying4 true) ?_; intro w1 hown1 hgrow1)
      have HO := Lib.hid hown1
      have hr1 : w1.heap[G]? = some (.cells (keysL.map Value.string).toArray 9 (0, 0)) := (hgrow1.block G (Array.getElem?_eq_some_iff.1 hr.out).1 (fun e => HN.out (Option.some.inj e))).trans hr.out
      have hl1 : Below w.heap.size w w1 := hl.out.grown hgrow1 hl.out.size (fun k hk => by cases hk; exact Nat.le_refl _)
      have HR1 := Lib.hid hr1
      have HL1 := Lib.hid hl1
      clear hown1 hgrow1 hr1 hl1
      go_wp2_with fail
      go_roundw
      case rel => exact ⟨k + 1, by omega, by go_num, by rw [HT.out]; exact HO, HR1, HL1⟩
      case measure => simp [intOf]; omega
    · obtain rfl : k = 43 := by omega
      go_wp2_with fail
      go_ret
      exact ⟨_, rfl, Nat.le_refl _, hm.out, hl.out⟩
end Go.Proofs.YtjlnbhdmbfofdaaDoor.Lx
