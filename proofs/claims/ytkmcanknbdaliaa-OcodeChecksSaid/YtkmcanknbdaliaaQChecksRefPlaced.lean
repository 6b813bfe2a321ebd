/- The reference's look at labels and where they lie, in the words of the program's. -/
import Derived.Test.YtkmcanknbdaliaaQChecksRefScan
import Derived.Test.YtkmcanknbdaliaaQChecks2
import Derived.Test.YtkmcanknbdaliaaQChecks3
namespace Go.Proofs.Ytkmcanknbdaliaa.Lx
open Go Go.RowKit Go.Proofs.YtkmcanknbdaliaaW.PrintWords Go.Proofs.YtkmcanknbdaliaaW.PrintLast Go.Proofs.YtkmcanknbdaliaaW.PrintMore Go.Proofs.Ytkmcanknbdaliaa.PO
theorem label_g (o : S35) (k : Nat) (hk : 1 ≤ k) : bluebellref06_Label.f k o.f0 o.f1 o.f2 = some (namedI o) := by
 obtain ⟨k, rfl⟩ : ∃ m, k = m + 1 := ⟨k - 1, by omega⟩
 unfold bluebellref06_Label.f namedI
 simp only [bluebellref06_Label.j0, beq_iff_eq]
 by_cases h1 : o.f0 = 20
 ·simp [h1]
 by_cases h2 : o.f0 = 21
 ·simp [h2]
 by_cases h3 : o.f0 = 22
 ·simp [h3]
 by_cases h4 : o.f0 = 27
 ·simp [h4]
 by_cases h5 : o.f0 = 29
 ·simp [h5]
 by_cases h6 : o.f0 = 30
 ·simp [h6]
 simp [h1, h2, h3, h4, h5, h6]
theorem rd_put (xs : List Int) (a : Nat) (v : Int) (j : Int) (h : j.toNat ≠ a) : rd (xs.set a v) j = rd xs j := by
 unfold rd
 rw [List.getD_eq_getElem?_getD, List.getD_eq_getElem?_getD, List.getElem?_set_ne (Ne.symm h)]
theorem rd_put_same (xs : List Int) (a : Nat) (v : Int) (j : Int) (h : j.toNat = a) (hl : a < xs.length) : rd (xs.set a v) j = v := by
 unfold rd
 rw [h, List.getD_eq_getElem?_getD, List.getElem?_set_self hl, Option.getD_some]
/-- How many procedures begin ahead of an instruction. -/
def pcn (l : List S35) : Nat → Int
 | 0 => 0
 | i + 1 => pcn l i + (if (opAt l i).f0 = 24 then 1 else 0)
theorem pcn_bd (l : List S35) : ∀ i, 0 ≤ pcn l i ∧ pcn l i ≤ i
 | 0 => ⟨Int.le_refl _, Int.le_refl _⟩
 | i + 1 => by
  have := pcn_bd l i
  rw [pcn]
  split <;> omega
theorem pcn_pos {l : List S35} (h : (opAt l 0).f0 = 24) : ∀ i, 0 < i → 0 < pcn l i
 | 0, hi => absurd hi (by decide)
 | 1, _ => by rw [pcn, if_pos h, pcn]; decide
 | i + 2, _ => by
  have := pcn_pos h (i + 1) (by omega)
  rw [pcn]
  split <;> omega
theorem scan_enters {l : List S35} {r : Int × Int} : ∀ (n i : Nat) (la : Int), l.length - i = n → scanL (l.drop i) (pcn l i) la = some r → ∀ j, i ≤ j → j < l.length → (opAt l j).f0 = 24 → (opAt l j).f1 = pcn l j + 1
 | 0, i, la, hn, h, j, h1, h2, h3 => by omega
 | n + 1, i, la, hn, h, j, h1, h2, h3 => by
  have hi : i < l.length := by omega
  rw [scan_drop l i _ la hi] at h
  have key : ((opAt l i).f0 = 24 → (opAt l i).f1 = pcn l i + 1) ∧ ∃ la', scanL (l.drop (i + 1)) (pcn l (i + 1)) la' = some r := by
   rw [pcn]
   by_cases e : (opAt l i).f0 = 24
   ·rw [if_pos e] at h ⊢
    by_cases e2 : (opAt l i).f1 = pcn l i + 1
    ·rw [if_pos e2] at h; exact ⟨fun _ => e2, la, h⟩
    ·rw [if_neg e2] at h; exact absurd h (by simp)
   ·rw [if_neg e] at h ⊢
    refine ⟨fun h => absurd h e, ?_⟩
    rw [Int.add_zero]
    split at h <;> exact ⟨_, h⟩
  obtain ⟨k1, la', k2⟩ := key
  rcases Nat.lt_or_ge i j with hij | hij
  ·exact scan_enters n (i + 1) la' (by omega) k2 j (by omega) h2 h3
  ·obtain rfl : i = j := by omega
   exact k1 h3
structure PRel (l : List S35) (L : Nat) (i : Nat) (at_ of_ place proc : List Int) : Prop where
 a : at_.length = L + 1
 o : of_.length = L + 1
 p : place.length = L + 1
 q : proc.length = l.length
 proc : ∀ j : Nat, j < i → rd proc (j : Int) = pcn l (j + 1)
 rel : ∀ x : Int, 0 ≤ x → x ≤ L → (rd of_ x = 0 ∧ rd place x = -1 ∧ rd at_ x = 0) ∨ (0 < rd of_ x ∧ rd at_ x = rd place x ∧ 0 < rd place x ∧ rd place x < i ∧ rd of_ x = pcn l ((rd place x).toNat + 1))
theorem PRel.step {l : List S35} {L i : Nat} {at_ of_ place proc : List Int} (h : PRel l L i at_ of_ place proc) (hi : i < l.length) : PRel l L (i + 1) at_ of_ place (proc.set i (pcn l (i + 1))) where
 a := h.a
 o := h.o
 p := h.p
 q := by rw [List.length_set]; exact h.q
 proc j hj := by
  by_cases e : j = i
  ·subst e; rw [rd_put_same _ _ _ _ (by omega) (by rw [h.q]; exact hi)]
  ·rw [rd_put _ _ _ _ (by omega)]; exact h.proc j (by omega)
 rel x h0 h1 := by
  rcases h.rel x h0 h1 with r | ⟨r1, r2, r3, r4, r5⟩
  ·exact .inl r
  ·exact .inr ⟨r1, r2, r3, by omega, r5⟩
theorem PRel.label {l : List S35} {L i : Nat} {at_ of_ place proc : List Int} (h : PRel l L (i + 1) at_ of_ place proc) (x : Int) (p : Int) (h0 : 0 ≤ x) (h1 : x ≤ L) (hp : 0 < p) (hpc : p = pcn l (i + 1)) (hi : 0 < i) :
  PRel l L (i + 1) (at_.set x.toNat i) (of_.set x.toNat p) (place.set x.toNat i) proc where
 a := by rw [List.length_set]; exact h.a
 o := by rw [List.length_set]; exact h.o
 p := by rw [List.length_set]; exact h.p
 q := h.q
 proc := h.proc
 rel y h2 h3 := by
  by_cases e : y = x
  ·subst e
   right
   rw [rd_put_same _ _ _ _ rfl (by rw [h.o]; omega), rd_put_same _ _ _ _ rfl (by rw [h.a]; omega), rd_put_same _ _ _ _ rfl (by rw [h.p]; omega), Int.toNat_natCast]
   exact ⟨hp, rfl, by omega, by omega, hpc⟩
  ·rw [rd_put _ _ _ _ (by omega), rd_put _ _ _ _ (by omega), rd_put _ _ _ _ (by omega)]
   exact h.rel y h2 h3
theorem placed_l1 (c : Cod) (hl : c.ops.length ≤ 1000000) (L : Nat) (hL : c.labels = L) (hops : c.ops.all (opOk c) = true) (h24 : 0 < c.ops.length → (opAt c.ops 0).f0 = 24) (r : Int × Int) :
  ∀ (n i : Nat) (la : Int) (at_ of_ place proc : List Int) (k : Nat), c.ops.length - i = n → i ≤ c.ops.length → PRel c.ops L i at_ of_ place proc → scanL (c.ops.drop i) (pcn c.ops i) la = some r →
   (placL (c.ops.drop i) i (pcn c.ops i) la at_ of_ = none ∧ ∃ a b, bluebellref06_placed.l1 (k + 2 * n + 1) (pcn c.ops i) (i : Int) c.name c.data c.ops c.gl c.procs c.labels place proc = some (a, b, false)) ∨
   (∃ at' of' place' proc', placL (c.ops.drop i) i (pcn c.ops i) la at_ of_ = some (at', of', r.1, r.2) ∧ bluebellref06_placed.l1 (k + 2 * n + 1) (pcn c.ops i) (i : Int) c.name c.data c.ops c.gl c.procs c.labels place proc = bluebellref06_placed.l2 k 0 c.name c.data c.ops c.gl c.procs c.labels place' proc' ∧ PRel c.ops L c.ops.length at' of' place' proc')
 | 0, i, la, at_, of_, place, proc, k, hn, hi, hr, hs => by
  right
  obtain rfl : i = c.ops.length := by omega
  rw [List.drop_eq_nil_of_le (Nat.le_refl _)] at hs ⊢
  obtain rfl : (pcn c.ops c.ops.length, la) = r := Option.some.inj hs
  refine ⟨at_, of_, place, proc, rfl, ?_, hr⟩
  rw [Nat.mul_zero, Nat.add_zero, bluebellref06_placed.l1, if_neg (by omega)]
 | n + 1, i, la, at_, of_, place, proc, k, hn, hi, hr, hs => by
  have hlt : i < c.ops.length := by omega
  have hop : opOk c (opAt c.ops i) = true := by rw [op_get _ _ hlt]; exact List.all_eq_true.1 hops _ (List.getElem_mem hlt)
  have hrd : rd_T35 c.ops (i : Int) = opAt c.ops i := rfl
  have hb := pcn_bd c.ops i
  have hr1 := hr.step hlt
  have hj : bluebellref06_placed.l1 (k + 2 * (n + 1) + 1) (pcn c.ops i) (i : Int) c.name c.data c.ops c.gl c.procs c.labels place proc = bluebellref06_placed.j2 (k + 2 * n + 2) (pcn c.ops (i + 1)) (i : Int) c.name c.data c.ops c.gl c.procs c.labels place proc := by
   rw [show k + 2 * (n + 1) + 1 = (k + 2 * n + 2) + 1 by omega, bluebellref06_placed.l1, if_pos (by omega), if_pos (by omega), hrd, w64 (pcn c.ops i + 1) (by omega), pcn]
   by_cases e : (opAt c.ops i).f0 = 24
   ·rw [if_pos e, if_pos e]
   ·rw [if_neg e, if_neg e, Int.add_zero]
  rw [hj, show k + 2 * n + 2 = (k + 2 * n + 1) + 1 by omega, bluebellref06_placed.j2, if_pos (by omega), if_pos (by rw [hr.q]; omega), Option.bind_some, if_pos (by omega), hrd, at_succ i (by omega), Int.toNat_natCast]
  rw [scan_drop c.ops i _ la hlt] at hs
  rw [drop_opAt c.ops i hlt, placL]
  by_cases e1 : (opAt c.ops i).f0 = 24
  ·have e19 : ¬ (opAt c.ops i).f0 = 19 := by rw [e1]; decide
   rw [if_pos e1] at hs
   rw [if_pos e1, if_neg e19]
   by_cases e2 : (opAt c.ops i).f1 = pcn c.ops i + 1
   ·rw [if_pos e2] at hs
    rw [if_pos e2]
    have hp : pcn c.ops i + 1 = pcn c.ops (i + 1) := by rw [pcn, if_pos e1]
    rw [hp] at hs ⊢
    exact placed_l1 c hl L hL hops h24 r n (i + 1) la at_ of_ place _ k (by omega) (by omega) hr1 hs
   ·rw [if_neg e2] at hs; exact absurd hs (by simp)
  have hp : pcn c.ops (i + 1) = pcn c.ops i := by rw [pcn, if_neg e1, Int.add_zero]
  rw [if_neg e1] at hs ⊢
  by_cases e5 : (opAt c.ops i).f0 = 19
  ·rw [if_pos e5] at hs
   have hlab := opOk_lab hop (by rw [e5]; rfl)
   have hi0 : 0 < i := by
    rcases Nat.eq_zero_or_pos i with h | h
    ·subst h; exact absurd (h24 (by omega)) e1
    ·exact h
   have hpos := pcn_pos (h24 (by omega)) i hi0
   have q1 : 0 ≤ (opAt c.ops i).f1 := by omega
   have q2 : (opAt c.ops i).f1 < (place.length : Int) := by rw [hr.p]; omega
   rw [if_pos e5, if_pos e5]
   rcases hr.rel (opAt c.ops i).f1 (by omega) (by omega) with ⟨r1, r2, _⟩ | ⟨r1, r2, r3, r4, r5⟩
   ·rw [if_neg (show ¬ (rd of_ (opAt c.ops i).f1 ≠ 0 ∨ pcn c.ops i = 0) by omega), if_pos q1, if_pos q2, if_neg (show ¬ rd place (opAt c.ops i).f1 ≥ 0 by omega)]
    have := placed_l1 c hl L hL hops h24 r n (i + 1) (mx la (opAt c.ops i).f1) (at_.set (opAt c.ops i).f1.toNat i) (of_.set (opAt c.ops i).f1.toNat (pcn c.ops (i + 1))) (place.set (opAt c.ops i).f1.toNat i) _ k (by omega) (by omega) (hr1.label (opAt c.ops i).f1 (pcn c.ops (i + 1)) (by omega) (by omega) (by omega) rfl hi0) (by rw [hp]; exact hs)
    rw [hp] at this ⊢
    exact this
   ·rw [if_pos (show rd of_ (opAt c.ops i).f1 ≠ 0 ∨ pcn c.ops i = 0 by omega), if_pos q1, if_pos q2, if_pos (show rd place (opAt c.ops i).f1 ≥ 0 by omega)]
    exact .inl ⟨rfl, _, _, rfl⟩
  ·rw [if_neg e5] at hs
   rw [if_neg e5, if_neg e5]
   have := placed_l1 c hl L hL hops h24 r n (i + 1) la at_ of_ place _ k (by omega) (by omega) hr1 (by rw [hp]; exact hs)
   rw [hp] at this ⊢
   exact this
theorem placed_l2 (c : Cod) (hl : c.ops.length ≤ 1000000) (L : Nat) (hL : c.labels = L) (hops : c.ops.all (opOk c) = true) (h24 : 0 < c.ops.length → (opAt c.ops 0).f0 = 24)
  (hsc : ∀ j, j < c.ops.length → (opAt c.ops j).f0 = 24 → (opAt c.ops j).f1 = pcn c.ops j + 1) (at_ of_ place proc : List Int) (hr : PRel c.ops L c.ops.length at_ of_ place proc) :
  ∀ (n i k : Nat), c.ops.length - i = n → i ≤ c.ops.length → n + 2 ≤ k → bluebellref06_placed.l2 k (i : Int) c.name c.data c.ops c.gl c.procs c.labels place proc = some (place, proc, namesB at_ of_ (c.ops.drop i) (pcn c.ops i))
 | 0, i, k, hn, hi, hk => by
  obtain ⟨k, rfl⟩ : ∃ m, k = m + 1 := ⟨k - 1, by omega⟩
  rw [bluebellref06_placed.l2, if_neg (by omega), List.drop_eq_nil_of_le (by omega)]
  rfl
 | n + 1, i, k, hn, hi, hk => by
  obtain ⟨k, rfl⟩ : ∃ m, k = m + 1 := ⟨k - 1, by omega⟩
  have hlt : i < c.ops.length := by omega
  have hop : opOk c (opAt c.ops i) = true := by rw [op_get _ _ hlt]; exact List.all_eq_true.1 hops _ (List.getElem_mem hlt)
  have hrd : rd_T35 c.ops (i : Int) = opAt c.ops i := rfl
  have ih := placed_l2 c hl L hL hops h24 hsc at_ of_ place proc hr n (i + 1) k (by omega) (by omega) (by omega)
  have hnm := named_ok (by omega : 0 ≤ c.labels) hop
  have hpi : (if (opAt c.ops i).f0 = 24 then (opAt c.ops i).f1 else pcn c.ops i) = pcn c.ops (i + 1) := by
   rw [pcn]
   by_cases e : (opAt c.ops i).f0 = 24
   ·rw [if_pos e, if_pos e, hsc i hlt e]
   ·rw [if_neg e, if_neg e, Int.add_zero]
  have hpos := pcn_pos (h24 (by omega)) (i + 1) (by omega)
  rw [bluebellref06_placed.l2, if_pos (by omega), if_pos (by omega), hrd, label_g _ k (by omega), Option.bind_some, at_succ i (by omega), ih, drop_opAt c.ops i hlt, namesB, hpi]
  by_cases hg : namedI (opAt c.ops i) > 0
  ·rw [if_pos hg, if_pos (by omega), if_pos (by rw [hr.p]; omega), hr.proc i hlt]
   rcases hr.rel (namedI (opAt c.ops i)) (by omega) (by omega) with ⟨r1, r2, _⟩ | ⟨r1, r2, r3, r4, r5⟩
   ·rw [if_pos (by omega), if_pos ⟨hg, .inl (by omega)⟩]
   ·have hq := hr.proc (rd place (namedI (opAt c.ops i))).toNat (by omega)
    rw [Int.toNat_of_nonneg (by omega), ← r5] at hq
    rw [if_neg (by omega), if_pos (by omega), if_pos (by rw [hr.q]; omega), if_pos (by rw [hr.q]; omega), hq]
    by_cases e : rd of_ (namedI (opAt c.ops i)) = pcn c.ops (i + 1)
    ·rw [if_pos e, if_neg (by rintro ⟨_, h | h⟩ <;> omega)]
    ·rw [if_neg e, if_pos ⟨hg, .inl e⟩]
  ·rw [if_neg hg, if_neg (fun h => hg h.1)]
theorem placed_l0 (c : Cod) (L : Nat) (hL : c.labels = L) (hL2 : L ≤ 1000000) (proc : List Int) : ∀ (n x : Nat) (place : List Int) (k : Nat), L + 1 - x = n → x ≤ L + 1 → place.length = L + 1 → (∀ y : Nat, y < x → rd place (y : Int) = -1) →
  ∃ place', bluebellref06_placed.l0 (k + n + 1) (x : Int) c.name c.data c.ops c.gl c.procs c.labels place proc = bluebellref06_placed.l1 k 0 0 c.name c.data c.ops c.gl c.procs c.labels place' proc ∧ place'.length = L + 1 ∧ ∀ y : Nat, y < L + 1 → rd place' (y : Int) = -1
 | 0, x, place, k, hn, hx, hp, hy => by
  refine ⟨place, ?_, hp, fun y h => hy y (by omega)⟩
  rw [Nat.add_zero, bluebellref06_placed.l0, if_neg (by omega)]
 | n + 1, x, place, k, hn, hx, hp, hy => by
  obtain ⟨p', h1, h2, h3⟩ := placed_l0 c L hL hL2 proc n (x + 1) (place.set x (-1)) k (by omega) (by omega) (by rw [List.length_set]; exact hp) (fun y h => by
   by_cases e : y = x
   ·subst e; exact rd_put_same _ _ _ _ (by omega) (by omega)
   ·rw [rd_put _ _ _ _ (by omega)]; exact hy y (by omega))
  refine ⟨p', ?_, h2, h3⟩
  rw [show k + (n + 1) + 1 = (k + n + 1) + 1 by omega, bluebellref06_placed.l0, if_pos (by omega), if_pos (by omega), if_pos (by omega), at_succ x (by omega), Int.toNat_natCast, h1]
theorem rd_rep (n : Nat) (x : Int) : rd (List.replicate n (0 : Int)) x = 0 := by
 unfold rd
 rw [List.getD_eq_getElem?_getD, List.getElem?_replicate]
 split <;> rfl
theorem placed_ref (c : Cod) (hl : c.ops.length ≤ 1000000) (L : Nat) (hL : c.labels = L) (hL2 : L ≤ 1000000) (hops : c.ops.all (opOk c) = true) (h24 : 0 < c.ops.length → (opAt c.ops 0).f0 = 24)
  (hs : scanOk c.procs c.labels (scanL c.ops 0 0) = true) (k : Nat) (hk : 3 * c.ops.length + L + 8 ≤ k) :
  ∃ a b, bluebellref06_placed.f k c.name c.data c.ops c.gl c.procs c.labels = some (a, b, (placR c).2.2 && namesB (placR c).1 (placR c).2.1 c.ops 0) ∧
   (((placR c).2.2 && namesB (placR c).1 (placR c).2.1 c.ops 0) = true → a.length = L + 1 ∧ ∀ x : Int, 0 ≤ x → x ≤ L → rd (placR c).1 x ≠ 0 → rd a x = rd (placR c).1 x) := by
 obtain ⟨q, hq⟩ : ∃ q, k = (q + c.ops.length + 2 + 2 * c.ops.length + 1) + (L + 1) + 1 := ⟨k - (3 * c.ops.length + L + 5), by omega⟩
 cases hsc : scanL c.ops 0 0 with
 | none => rw [hsc] at hs; exact absurd hs (by simp [scanOk])
 | some r =>
  rw [hsc] at hs
  have hs := Bool.and_eq_true_iff.1 hs
  have hr1 := beq_iff_eq.1 hs.1
  have hr2 := beq_iff_eq.1 hs.2
  obtain ⟨place, e0, e1, e2⟩ := placed_l0 c L hL hL2 (List.replicate c.ops.length 0) (L + 1) 0 (List.replicate (L + 1) 0) (q + c.ops.length + 2 + 2 * c.ops.length + 1) rfl (by omega) (by simp) (fun y h => by omega)
  have hf : bluebellref06_placed.f k c.name c.data c.ops c.gl c.procs c.labels = bluebellref06_placed.l1 (q + c.ops.length + 2 + 2 * c.ops.length + 1) 0 0 c.name c.data c.ops c.gl c.procs c.labels place (List.replicate c.ops.length 0) := by
   unfold bluebellref06_placed.f
   rw [hL, w64 ((L : Int) + 1) (by omega), if_pos (by omega), if_pos (by omega), if_pos (by omega), if_pos (by omega), show ((L : Int) + 1).toNat = L + 1 by omega, Int.toNat_natCast, hq, ← hL]
   exact e0
  have hrel : PRel c.ops L 0 (zeros L) (zeros L) place (List.replicate c.ops.length 0) :=
   ⟨by simp [zeros], by simp [zeros], e1, by simp, fun j h => absurd h (by omega), fun x h0 h1 => .inl ⟨rd_rep _ _, by have := e2 x.toNat (by omega); rwa [Int.toNat_of_nonneg h0] at this, rd_rep _ _⟩⟩
  rw [hf]
  rcases placed_l1 c hl L hL hops h24 r c.ops.length 0 0 (zeros L) (zeros L) place (List.replicate c.ops.length 0) (q + c.ops.length + 2) (by omega) (by omega) hrel hsc with ⟨p1, a, b, p2⟩ | ⟨at', of', place', proc', p1, p2, p3⟩
  ·have hR := placR_of c L hL _ p1
   refine ⟨a, b, ?_, fun h => ?_⟩
   ·rw [hR]; exact p2
   ·rw [hR] at h; exact absurd h (by simp [placFin])
  ·have hR := placR_of c L hL _ p1
   have hR2 : placR c = (at', of', true) := by
    rw [hR]
    show (at', of', decide (r.1 = c.procs) && decide (r.2 = c.labels)) = _
    rw [decide_eq_true hr1, decide_eq_true hr2]
    rfl
   refine ⟨place', proc', ?_, fun _ => ⟨p3.p, fun x h0 h1 h2 => ?_⟩⟩
   ·rw [hR2]
    refine p2.trans ?_
    exact placed_l2 c hl L hL hops h24 (fun j hj => scan_enters (l := c.ops) (r := r) c.ops.length 0 0 (by omega) hsc j (by omega) hj) at' of' place' proc' p3 c.ops.length 0 (q + c.ops.length + 2) (by omega) (by omega) (by omega)
   ·rw [hR2] at h2 ⊢
    rcases p3.rel x h0 h1 with ⟨_, _, r3⟩ | ⟨r1, r2, r3⟩
    ·exact absurd r3 h2
    ·exact r2.symm
end Go.Proofs.Ytkmcanknbdaliaa.Lx
