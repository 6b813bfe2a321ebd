/- The law OcodeDown, in plain words: depths go on as instructions say, and a room is the greatest depth. -/
import Derived.Test.YtkmcanknbdaliaaQDownAfterRef
import Derived.Test.YtkmcanknbdaliaaQDownAwake
import Derived.Test.YtkmcanknbdaliaaQDownERoom
import Derived.Test.YtkmcanknbdaliaaQDownOpenCode
import Derived.Test.YtkmcanknbdaliaaQDown5
namespace Go.Proofs.Ytkmcanknbdaliaa.Lx
open Go Go.RowKit Go.Proofs.YtkmcanknbdaliaaW.PrintWords Go.Proofs.YtkmcanknbdaliaaW.PrintLast Go.Proofs.YtkmcanknbdaliaaW.PrintMore Go.Proofs.Ytkmcanknbdaliaa.PO
/-- Procedures are entered in the order of their numbers. -/
def entersOk : List S35 → Int → Prop
  | [], _ => True
  | o :: l, p => if o.f0 = 24 then o.f1 = p + 1 ∧ entersOk l (p + 1) else entersOk l p
theorem enters_of_plac : ∀ (l : List S35) (i : Nat) (p q : Int) (xs ys : List Int) (r : List Int × List Int × Int × Int), placL l i p q xs ys = some r → entersOk l p
  | [], _, _, _, _, _, _, _ => trivial
  | o :: l, i, p, q, xs, ys, r, h => by
    rw [placL] at h
    rw [entersOk]
    by_cases a : o.f0 = 24
    · rw [if_pos a] at h ⊢
      by_cases b : o.f1 = p + 1
      · rw [if_pos b] at h
        exact ⟨b, enters_of_plac l _ _ _ _ _ r h⟩
      · rw [if_neg b] at h
        exact absurd h (by simp)
    · rw [if_neg a] at h ⊢
      by_cases b : o.f0 = 19
      · rw [if_pos b] at h
        by_cases e : rd ys o.f1 ≠ 0 ∨ p = 0
        · rw [if_pos e] at h
          exact absurd h (by simp)
        · rw [if_neg e] at h
          exact enters_of_plac l _ _ _ _ _ r h
      · rw [if_neg b] at h
        exact enters_of_plac l _ _ _ _ _ r h
theorem enters_valid {c : Cod} (h : Valid c) : entersOk c.ops 0 := by
  have hp := h.st.pl
  unfold placR at hp
  cases e : placL c.ops 0 0 0 (zeros c.labels.toNat) (zeros c.labels.toNat) with
  | none => rw [e] at hp; exact absurd hp (by simp [placFin])
  | some r => exact enters_of_plac _ _ _ _ _ _ _ e
theorem rd_set (xs : List Int) (a : Nat) (v : Int) (j : Int) (h : j.toNat ≠ a) : rd (xs.set a v) j = rd xs j := by
  unfold rd
  rw [List.getD_eq_getElem?_getD, List.getD_eq_getElem?_getD, List.getElem?_set_ne (Ne.symm h)]
theorem rd_set_same (xs : List Int) (a : Nat) (v : Int) (j : Int) (h : j.toNat = a) (hl : a < xs.length) : rd (xs.set a v) j = v := by
  unfold rd
  rw [h, List.getD_eq_getElem?_getD, List.getElem?_set_self hl, Option.getD_some]
theorem rd_room12 (o : S35) (d p : Int) (out : List Int) (j : Int) (h0 : 0 ≤ j) (hp : 1 ≤ p) (hj : j + 1 < p) : rd (room2 o d p (room1 o d p out)) j = rd out j := by
  unfold room2
  rw [rd_set _ _ _ _ (by omega)]
  unfold room1
  by_cases h : o.f0 = 24
  · rw [if_pos h]
  · rw [if_neg h, rd_set _ _ _ _ (by omega)]
theorem room_keep : ∀ (l : List S35) (ds : List Int) (p : Int) (out : List Int) (j : Int), entersOk l p → 0 ≤ j → j + 1 < p → 1 ≤ p → rd (roomL l ds p out) j = rd out j
  | [], ds, p, out, j, _, _, _, _ => by rw [roomL]
  | o :: l, [], p, out, j, _, _, _, _ => by rw [roomL]
  | o :: l, d :: ds, p, out, j, h, h0, hj, hp => by
    rw [entersOk] at h
    rw [roomL]
    by_cases a : o.f0 = 24
    · rw [if_pos a] at h
      have e : roomP o p = p + 1 := by unfold roomP; rw [if_pos a]; exact h.1
      rw [e, room_keep l ds (p + 1) _ j h.2 h0 (by omega) (by omega), rd_room12 _ _ _ _ _ h0 (by omega) (by omega)]
    · rw [if_neg a] at h
      have e : roomP o p = p := by unfold roomP; rw [if_neg a]
      rw [e, room_keep l ds p _ j h h0 hj hp, rd_room12 _ _ _ _ _ h0 hp hj]
theorem stackGo_fits {l : List S35} {at_ : List Int} {i : Nat} {d : Int} (hi : i < l.length) (h : stackGo l at_ i d = true) : fitsB (opAt l i) d (kindAt (opAt l i).f0) (decide (0 < i) && (opAt l (i - 1)).f0 == 19) = true ∧ jumpOk l at_ (opAt l i) = true ∧ fallOk l i (opAt l i) = true := by
  rw [stackGo, if_pos hi] at h
  by_cases g : (fitsB (opAt l i) d (kindAt (opAt l i).f0) (decide (0 < i) && (opAt l (i - 1)).f0 == 19) && decide (2 ≤ afterI (opAt l i) d (kindAt (opAt l i).f0)) && decide (afterI (opAt l i) d (kindAt (opAt l i).f0) ≤ 4000) && jumpOk l at_ (opAt l i) && fallOk l i (opAt l i)) = true
  · have g1 := and2 g
    have g2 := and2 g1.1
    have g3 := and2 g2.1
    have g4 := and2 g3.1
    exact ⟨g4.1, g2.2, g1.2⟩
  · rw [if_neg g] at h
    exact absurd h (by decide)
theorem down_l0 (c : Cod) (hv : Valid c) (P : Nat) (hP : c.procs = (P : Int)) (D R : List Int) (hD : D.length = c.ops.length) (hR : R.length = P) :
    ∀ (n i : Nat) (d p : Int) (out : List Int) (k : Nat), c.ops.length - i = n → i ≤ c.ops.length → 2 * n + 7 ≤ k → D.drop i = depthsL (c.ops.drop i) d → stackGo c.ops (placR c).1 i d = true → 0 ≤ d → d ≤ 4000 → (2 ≤ d ∨ i = 0) → (i = 0 → p = 0) → 0 ≤ p → p ≤ P → (1 ≤ p ∨ i = 0) →
      entersOk (c.ops.drop i) p → R = roomL (c.ops.drop i) (D.drop i) p out → out.length = P → (∀ j : Int, p ≤ j → rd out j = 0) → bluebelllaw06_OcodeDown.l0 k D R p (rd out (p - 1)) (i : Int) c.name c.data c.ops c.gl c.procs c.labels = some true
  | 0, i, d, p, out, k, hn, hi, hk, _, _, _, _, _, hp0, hp1, hp2, hp3, _, hRR, hol, hoz => by
    obtain ⟨k, rfl⟩ : ∃ m, k = m + 1 := ⟨k - 1, by omega⟩
    obtain rfl : i = c.ops.length := by omega
    rw [List.drop_length, roomL] at hRR
    subst hRR
    simp only [bluebelllaw06_OcodeDown.l0]
    rw [if_neg (by omega)]
    by_cases g : p = 0
    · rw [if_pos g, awake_f k (by omega)]; rfl
    · have hl := hv.lim
      rw [if_neg g, w64 (p - 1) (by omega), if_pos (by omega), if_pos (by omega), if_pos rfl, awake_f k (by omega)]; rfl
  | n + 1, i, d, p, out, k, hn, hi, hk, hd, hs, hd0, hd1, hd2, hp0, hp1, hp2, hp3, he, hRR, hol, hoz => by
    obtain ⟨k, rfl⟩ : ∃ m, k = m + 2 := ⟨k - 2, by omega⟩
    have hlt : i < c.ops.length := by omega
    have hlim := hv.lim
    obtain ⟨a1, a2, a3⟩ := stackGo_next hlt hs
    have hop : opOk c (opAt c.ops i) = true := by rw [op_get _ _ hlt]; exact List.all_eq_true.1 hv.st.ops _ (List.getElem_mem hlt)
    obtain ⟨s1, s2⟩ := op_small hop hv.st.p hv.st.cd.l hv.fine.d
    have hDi : i < D.length := by omega
    have hcons : D.drop i = rd D (i : Int) :: D.drop (i + 1) := by
      rw [List.drop_eq_getElem_cons hDi]
      congr 1
      unfold rd
      rw [Int.toNat_natCast, List.getD_eq_getElem?_getD, List.getElem?_eq_getElem hDi, Option.getD_some]
    have hd' := hd
    rw [hcons, drop_opAt c.ops i hlt, depthsL] at hd'
    obtain ⟨e1, e2⟩ := List.cons.inj hd'
    have hsm : Small (rd D (i : Int)) := by rw [e1]; unfold ahead Small; split <;> omega
    have hfst : i = 0 → (opAt c.ops i).f0 = 24 := fun h => by subst h; exact first_enter hv.st.ord (by omega)
    rw [hcons, drop_opAt c.ops i hlt, roomL] at hRR
    rw [drop_opAt c.ops i hlt, entersOk] at he
    -- what stands behind it
    have hnext : ∀ X : Option Bool, (¬ (opAt c.ops (i + 1)).f0 = 24 → i + 1 < c.ops.length → rd D ((i + 1 : Nat) : Int) = afterI (opAt c.ops i) d (kindAt (opAt c.ops i).f0)) := fun _ hne hl2 => by
      have h2 : i + 1 < D.length := by omega
      have hc2 : D.drop (i + 1) = rd D ((i + 1 : Nat) : Int) :: D.drop (i + 1 + 1) := by
        rw [List.drop_eq_getElem_cons h2]
        congr 1
        unfold rd
        rw [Int.toNat_natCast, List.getD_eq_getElem?_getD, List.getElem?_eq_getElem h2, Option.getD_some]
      rw [hc2, drop_opAt c.ops (i + 1) hl2, depthsL] at e2
      obtain ⟨e3, _⟩ := List.cons.inj e2
      rw [e3]
      unfold ahead
      rw [if_neg hne]
    simp only [bluebelllaw06_OcodeDown.l0]
    rw [if_pos (by omega), if_pos (by omega), if_pos (by omega)]
    change ((bluebellref06_After.f (k + 1) (opAt c.ops i).f0 (opAt c.ops i).f1 (opAt c.ops i).f2 (rd D (i : Int))).bind fun t => if (opAt c.ops i).f0 = 24 then _ else _) = _
    rw [after_refk hop _ (k + 1) (by omega) s1 s2 hsm, Option.bind_some, e1, after_ahead]
    have hnx := hnext none
    clear hnext
    have ih := fun (p' : Int) (out' : List Int) => down_l0 c hv P hP D R hD hR n (i + 1) (afterI (opAt c.ops i) d (kindAt (opAt c.ops i).f0)) p' out' k (by omega) (by omega) (by omega) e2 a3 (by omega) a2 (.inl a1) (fun h => by omega)
    have eAf : afterI (opAt c.ops i) (rd D (i : Int)) (kindAt (opAt c.ops i).f0) = afterI (opAt c.ops i) d (kindAt (opAt c.ops i).f0) := by rw [e1, after_ahead]
    generalize afterI (opAt c.ops i) d (kindAt (opAt c.ops i).f0) = d2 at *
    by_cases h24 : (opAt c.ops i).f0 = 24
    · rw [if_pos h24] at he
      rw [if_pos h24]
      have hf1 := (enter_ok hop h24).2
      have eP : roomP (opAt c.ops i) p = p + 1 := by unfold roomP; rw [if_pos h24]; exact he.1
      have eA : ahead (opAt c.ops i) d = 0 := by unfold ahead; rw [if_pos h24]
      have eR1 : room1 (opAt c.ops i) (rd D (i : Int)) (p + 1) out = out := by unfold room1; rw [if_pos h24]
      rw [eP, eR1] at hRR
      have hwl : (room2 (opAt c.ops i) (rd D (i : Int)) (p + 1) out).length = P := by rw [room2_len, hol]
      have e0 : rd out (p + 1 - 1) = 0 := hoz _ (by omega)
      have hr2 : rd (room2 (opAt c.ops i) (rd D (i : Int)) (p + 1) out) (p + 1 - 1) = mx 0 d2 := by
        unfold room2
        rw [rd_set_same _ _ _ _ rfl (by omega), e0, eAf]
      have hz2 : ∀ j : Int, p + 1 ≤ j → rd (room2 (opAt c.ops i) (rd D (i : Int)) (p + 1) out) j = 0 := fun j hj => by
        unfold room2
        rw [rd_set _ _ _ _ (by omega)]
        exact hoz j (by omega)
      have hkeep : 1 ≤ p → rd R (p - 1) = rd out (p - 1) := fun hp => by
        rw [hRR, room_keep _ _ (p + 1) _ _ he.2 (by omega) (by omega) (by omega)]
        unfold room2
        rw [rd_set _ _ _ _ (by omega)]
      have ih2 := ih (p + 1) _ (by omega) (by omega) (.inl (by omega)) he.2 hRR hwl hz2
      rw [hr2] at ih2
      rw [eA]
      have hj2 : bluebelllaw06_OcodeDown.j2 (k + 1) D R p (i : Int) d2 ((0 : Int) != 0) c.name c.data c.ops c.gl c.procs c.labels = some true := by
        simp only [bluebelllaw06_OcodeDown.j2]
        rw [if_neg (by decide), if_pos (by omega), if_pos (by omega), e1, eA, at_succ i (by omega), w64 (p + 1) (by omega), show mx (mx 0 0) d2 = mx 0 d2 from rfl]
        by_cases hl2 : i + 1 < c.ops.length
        · rw [if_pos (by omega), if_pos (by omega), if_pos (by omega)]
          change (if (opAt c.ops (i + 1)).f0 = 24 then _ else _) = _
          by_cases h3 : (opAt c.ops (i + 1)).f0 = 24
          · rw [if_pos h3]; exact ih2
          · rw [if_neg h3, if_pos (hnx h3 hl2)]; exact ih2
        · rw [if_neg (by omega)]; exact ih2
      by_cases g : p > 0
      · rw [if_pos g, w64 (p - 1) (by omega), if_pos (by omega), if_pos (by omega), if_pos (hkeep (by omega))]
        exact hj2
      · rw [if_neg g]
        exact hj2
    · rw [if_neg h24] at he
      rw [if_neg h24]
      have hi0 : i ≠ 0 := fun h => h24 (hfst h)
      have hp1' : 1 ≤ p := by omega
      have hd2' : 2 ≤ d := by omega
      have eP : roomP (opAt c.ops i) p = p := by unfold roomP; rw [if_neg h24]
      have eA : ahead (opAt c.ops i) d = d := by unfold ahead; rw [if_neg h24]
      rw [eP] at hRR
      have hwl : (room2 (opAt c.ops i) (rd D (i : Int)) p (room1 (opAt c.ops i) (rd D (i : Int)) p out)).length = P := by rw [room2_len, room1_len, hol]
      have hr2 : rd (room2 (opAt c.ops i) (rd D (i : Int)) p (room1 (opAt c.ops i) (rd D (i : Int)) p out)) (p - 1) = mx (mx (rd out (p - 1)) d) d2 := by
        unfold room2
        rw [rd_set_same _ _ _ _ rfl (by rw [room1_len]; omega)]
        unfold room1
        rw [if_neg h24, rd_set_same _ _ _ _ rfl (by omega), eAf, e1, eA]
      have hz2 : ∀ j : Int, p ≤ j → rd (room2 (opAt c.ops i) (rd D (i : Int)) p (room1 (opAt c.ops i) (rd D (i : Int)) p out)) j = 0 := fun j hj => by
        unfold room2
        rw [rd_set _ _ _ _ (by omega)]
        unfold room1
        rw [if_neg h24, rd_set _ _ _ _ (by omega)]
        exact hoz j hj
      have ih2 := ih p _ hp1 hp2 (.inl hp1') he hRR hwl hz2
      rw [hr2] at ih2
      rw [eA, if_neg (by omega), decide_eq_false (by omega : ¬ d > 4000)]
      simp only [bluebelllaw06_OcodeDown.j3]
      rw [if_neg (by decide), if_pos (by omega), if_pos (by omega), e1, eA, at_succ i (by omega)]
      by_cases hl2 : i + 1 < c.ops.length
      · rw [if_pos (by omega), if_pos (by omega), if_pos (by omega)]
        change (if (opAt c.ops (i + 1)).f0 = 24 then _ else _) = _
        by_cases h3 : (opAt c.ops (i + 1)).f0 = 24
        · rw [if_pos h3]; exact ih2
        · rw [if_neg h3, if_pos (hnx h3 hl2)]; exact ih2
      · rw [if_neg (by omega)]; exact ih2
theorem down_pure (c : Cod) (hw : Wide c) (_ : Whole c) : ∃ k, bluebelllaw06_OcodeDown.f k c.name c.data c.ops c.gl c.procs c.labels = some true := by
  obtain ⟨b, hb, hfine⟩ := heavy_f c hw
  refine ⟨c.data.length + 2 * c.ops.length + 20, ?_⟩
  unfold bluebelllaw06_OcodeDown.f
  rw [hb _ (by omega), Option.bind_some]
  cases b with
  | true => rw [if_pos rfl, awake_f _ (by omega)]; rfl
  | false =>
    have hf := hfine rfl
    have hfb := (fine_iff c).2 hf
    have e1 : ocode_Depths.f c.name c.data c.ops c.gl c.procs c.labels = some (depthsR c) := by unfold ocode_Depths.f; exact if_pos hfb
    have e2 : ocode_Room.f c.name c.data c.ops c.gl c.procs c.labels = some (roomR c) := by unfold ocode_Room.f; exact if_pos hfb
    rw [if_neg (by decide), e1, Option.bind_some, e2, Option.bind_some]
    unfold depthsR roomR
    by_cases g : checkI c = 0
    · have hv := check_ok hf g
      have hp : c.procs = (c.procs.toNat : Int) := by
        have := hv.coded
        unfold codedB at this
        simp only [Bool.and_eq_true_iff, decide_eq_true_iff] at this
        omega
      have hRl : ∀ (l : List S35) (ds : List Int) (p : Int) (out : List Int), (roomL l ds p out).length = out.length := by
        intro l
        induction l with
        | nil => intro ds p out; rw [roomL]
        | cons o l ih =>
          intro ds p out
          cases ds with
          | nil => rw [roomL]
          | cons d ds => rw [roomL, ih, room2_len, room1_len]
      have hl1 : (roomL c.ops (depthsL c.ops 0) 0 (List.replicate c.procs.toNat 0)).length = c.procs.toNat := by rw [hRl, List.length_replicate]
      rw [if_pos g, if_pos g, if_pos rfl, if_pos (by rw [depthsL_len])]
      obtain ⟨k, hk⟩ : ∃ k, c.data.length + 2 * c.ops.length + 20 = k + 1 := ⟨_, rfl⟩
      rw [hk]
      simp only [bluebelllaw06_OcodeDown.j0]
      rw [if_neg (by rw [hl1, ← hp]; simp)]
      have hz : ∀ j : Int, rd (List.replicate c.procs.toNat (0 : Int)) j = 0 := fun j => by
        unfold rd
        rw [List.getD_eq_getElem?_getD, List.getElem?_replicate]
        split <;> rfl
      have q := down_l0 c hv c.procs.toNat hp (depthsL c.ops 0) _ (depthsL_len _ _) hl1 c.ops.length 0 0 0 (List.replicate c.procs.toNat 0) k (by omega) (by omega) (by omega) rfl hv.stacked (by omega) (by omega) (.inr rfl) (fun _ => rfl) (by omega) (by omega) (.inr rfl) (enters_valid hv) rfl (List.length_replicate ..) (fun j _ => hz j)
      rw [hz] at q
      exact q
    · rw [if_neg g, if_neg g, if_neg g, if_pos rfl, check_f c hf _ (by omega), Option.bind_some, if_pos rfl, awake_f _ (by omega)]; rfl
end Go.Proofs.Ytkmcanknbdaliaa.Lx
