/- The reference's look at depths, in the words of the program's. -/
import Derived.Test.YtkmcanknbdaliaaQChecksRefPlaced
import Derived.Test.YtkmcanknbdaliaaQChecksAfterRef
import Derived.Test.YtkmcanknbdaliaaQChecks4
namespace Go.Proofs.Ytkmcanknbdaliaa.Lx
open Go Go.RowKit Go.Proofs.YtkmcanknbdaliaaW.PrintWords Go.Proofs.YtkmcanknbdaliaaW.PrintLast Go.Proofs.YtkmcanknbdaliaaW.PrintMore Go.Proofs.Ytkmcanknbdaliaa.PO
theorem needs_ref {c : Cod} {o : S35} (h : opOk c o = true) (h24 : o.f0 ≠ 24) (k : Nat) (hk : 3 ≤ k) : bluebellref06_needs.f k o.f0 o.f1 o.f2 = some (kindAt o.f0).f2 := by
 obtain ⟨k, rfl⟩ : ∃ m, k = m + 3 := ⟨k - 3, by omega⟩
 have ha := of_decide_eq_true (and2 (and2 h).1).1
 have hb := of_decide_eq_true (and2 (and2 h).1).2
 obtain ⟨f0, f1, f2⟩ := o
 change 1 ≤ f0 at ha
 change f0 < 31 at hb
 change f0 ≠ 24 at h24
 change bluebellref06_needs.f (k + 3) f0 f1 f2 = some (kindAt f0).f2
 clear h
 have : f0 = 1 ∨ f0 = 2 ∨ f0 = 3 ∨ f0 = 4 ∨ f0 = 5 ∨ f0 = 6 ∨ f0 = 7 ∨ f0 = 8 ∨ f0 = 9 ∨ f0 = 10 ∨ f0 = 11 ∨ f0 = 12 ∨ f0 = 13 ∨ f0 = 14 ∨ f0 = 15 ∨ f0 = 16 ∨ f0 = 17 ∨ f0 = 18 ∨ f0 = 19 ∨ f0 = 20 ∨ f0 = 21 ∨ f0 = 22 ∨ f0 = 23 ∨ f0 = 25 ∨ f0 = 26 ∨ f0 = 27 ∨ f0 = 28 ∨ f0 = 29 ∨ f0 = 30 := by omega
 rcases this with h|h|h|h|h|h|h|h|h|h|h|h|h|h|h|h|h|h|h|h|h|h|h|h|h|h|h|h|h <;> subst h <;> rfl
def localB (o : S35) (d : Int) : Bool := if o.f0 = 2 ∨ o.f0 = 3 then inB o.f1 2 (d - 1) else if o.f0 = 4 then decide (2 ≤ o.f1) else if o.f0 = 23 then inB o.f1 2 (d - 3) else if o.f0 = 18 then decide (o.f1 ≤ d + 2002) else true
theorem local_ref (o : S35) (d : Int) (hd : Small d) (k : Nat) (hk : 1 ≤ k) : bluebellref06_local.f k o.f0 o.f1 o.f2 d = some (localB o d) := by
 obtain ⟨k, rfl⟩ : ∃ m, k = m + 1 := ⟨k - 1, by omega⟩
 unfold Small at hd
 unfold bluebellref06_local.f localB
 simp only [bluebellref06_local.j0]
 rw [w64 (d - 1) (by omega), w64 (d - 3) (by omega), w64 (d + 2000) (by omega), w64 (d + 2000 + 2) (by omega), in_ref, in_ref]
 simp only [Option.bind_some]
 by_cases a : o.f0 = 2
 ·simp [a]
 by_cases b : o.f0 = 3
 ·simp [b]
 by_cases e : o.f0 = 4
 ·simp [e]
 by_cases f : o.f0 = 23
 ·simp [f]
 by_cases g : o.f0 = 18
 ·simp [g]; omega
 simp [a, b, e, f, g]
theorem fits_local (o : S35) (d : Int) (x : SKind) (b : Bool) (h : o.f0 ≠ 24) (hb : o.f0 = 18 ∨ b = false) : fitsB o d x b = ((b || localB o d) && !decide (d - x.f2 < 2)) := by
 unfold fitsB localB
 rw [decide_eq_false h, Bool.false_or]
 have e : decide (d - x.f2 ≥ 2) = !decide (d - x.f2 < 2) := by by_cases g : d - x.f2 < 2 <;> simp [g] <;> omega
 rw [e]
 congr 1
 rcases hb with hb | rfl
 ·rw [if_neg (by rw [hb]; decide), if_neg (by rw [hb]; decide), if_neg (by rw [hb]; decide), if_pos hb, if_neg (by rw [hb]; decide), if_neg (by rw [hb]; decide), if_neg (by rw [hb]; decide), if_pos hb]
 ·rfl
theorem lead_eq {l : List S35} {i : Nat} (hi : i < l.length) (h : (opAt l i).f0 = 19) : leadOp l i = leadOp l (i + 1) := by
 unfold leadOp
 rw [drop_opAt l i hi, leadsL, if_pos h]
theorem lead_self {l : List S35} {i : Nat} (hi : i < l.length) (h : (opAt l i).f0 ≠ 19) : leadOp l i = opAt l i := by
 unfold leadOp
 rw [drop_opAt l i hi, leadsL, if_neg h]
 rfl
theorem lands_ref (l : List S35) (ho : orderB l = true) (hl : l.length ≤ 1000000) : ∀ (n i k : Nat), l.length - i = n → i < l.length → n ≤ k → bluebellref06_lands.f k l (i : Int) = some ((leadOp l i).f0 == 28)
 | 0, i, k, hn, hi, hk => absurd hi (by omega)
 | n + 1, i, k, hn, hi, hk => by
  obtain ⟨k, rfl⟩ : ∃ m, k = m + 1 := ⟨k - 1, by omega⟩
  have hrd : rd_T35 l (i : Int) = opAt l i := rfl
  unfold bluebellref06_lands.f
  rw [bluebellref06_lands.l0, if_pos (by omega), if_pos (by omega), hrd, at_succ i (by omega)]
  by_cases e : (opAt l i).f0 = 19
  ·rw [if_pos e, lead_eq hi e]
   exact lands_ref l ho hl n (i + 1) k (by omega) (order_label l l.length 0 (by omega) ho i (by omega) hi e) (by omega)
  ·rw [if_neg e, lead_self hi e]
/-- The reference's loop in plain words. -/
def deepGo (l : List S35) (at_ : List Int) (i : Nat) (d : Int) (from_ : Bool) : Bool :=
 if i < l.length then
  if (opAt l i).f0 = 24 then deepGo l at_ (i + 1) (2 + (opAt l i).f2) true
  else if (fitsB (opAt l i) d (kindAt (opAt l i).f0) (decide (0 < i) && (opAt l (i - 1)).f0 == 19) && inB (afterI (opAt l i) d (kindAt (opAt l i).f0)) 2 4000 && !(((opAt l i).f0 == 28) && from_) && jumpOk l at_ (opAt l i)) = true
  then deepGo l at_ (i + 1) (afterI (opAt l i) d (kindAt (opAt l i).f0)) (if (opAt l i).f0 = 19 then from_ else goesB (opAt l i)) else false
 else true
termination_by l.length - i
theorem deep_l0 (c : Cod) (hl : c.ops.length ≤ 1000000) (L : Nat) (hL : c.labels = L) (hops : c.ops.all (opOk c) = true) (ho : orderB c.ops = true) (hsm : ∀ i, i < c.ops.length → Small (opAt c.ops i).f1 ∧ Small (opAt c.ops i).f2)
  (hM : ∀ i, i < c.ops.length → (opAt c.ops i).f0 = 24 → 0 ≤ (opAt c.ops i).f2 ∧ (opAt c.ops i).f2 ≤ 8)
  (at_ a b : List Int) (ha : a.length = L + 1) (hp : ∀ i, i < c.ops.length → namedI (opAt c.ops i) > 0 → rd a (namedI (opAt c.ops i)) = rd at_ (namedI (opAt c.ops i))) (hr : ∀ j, 0 < c.ops.length → 0 ≤ rd at_ j ∧ rd at_ j < c.ops.length) :
  ∀ (n i : Nat) (d : Int) (from_ : Bool) (k : Nat), c.ops.length - i = n → i ≤ c.ops.length → 5 * n + c.ops.length + 10 ≤ k → Small d → (i = 0 → (opAt c.ops 0).f0 = 24 ∨ c.ops.length = 0) →
   bluebellref06_deep.l0 k d from_ (i : Int) c.name c.data c.ops c.gl c.procs c.labels a b = some (deepGo c.ops at_ i d from_)
 | 0, i, d, from_, k, hn, hi, hk, hd, h0 => by
  obtain ⟨k, rfl⟩ : ∃ m, k = m + 1 := ⟨k - 1, by omega⟩
  rw [bluebellref06_deep.l0, if_neg (by omega), deepGo, if_neg (by omega)]
 | n + 1, i, d, from_, k, hn, hi, hk, hd, h0 => by
  obtain ⟨k, rfl⟩ : ∃ m, k = m + 5 := ⟨k - 5, by omega⟩
  have hlt : i < c.ops.length := by omega
  have hop : opOk c (opAt c.ops i) = true := by rw [op_get _ _ hlt]; exact List.all_eq_true.1 hops _ (List.getElem_mem hlt)
  have hrd : rd_T35 c.ops (i : Int) = opAt c.ops i := rfl
  have ih := fun (d : Int) (f : Bool) (k : Nat) (hk : 5 * n + c.ops.length + 10 ≤ k) (hd : Small d) => deep_l0 c hl L hL hops ho hsm hM at_ a b ha hp hr n (i + 1) d f k (by omega) (by omega) hk hd (fun h => absurd h (by omega))
  have hsi := hsm i hlt
  have hnm := named_ok (by omega : 0 ≤ c.labels) hop
  have hpi := hp i hlt
  rw [deepGo, if_pos hlt, show k + 5 = (k + 4) + 1 by omega, bluebellref06_deep.l0, if_pos (by omega), if_pos (by omega), hrd, at_succ i (by omega)]
  by_cases e24 : (opAt c.ops i).f0 = 24
  ·have hm := hM i hlt e24
   rw [if_pos e24, if_pos e24, w64 _ (by omega)]
   exact ih _ true (k + 4) (by omega) (by unfold Small; omega)
  rw [if_neg e24, if_neg e24]
  have hi0 : 0 < i := by
   rcases Nat.eq_zero_or_pos i with h | h
   ·subst h
    rcases h0 rfl with h | h
    ·exact absurd h e24
    ·omega
   ·exact h
  rw [after_refk hop d (k + 4) (by omega) hsi.1 hsi.2 hd, Option.bind_some]
  generalize hA : afterI (opAt c.ops i) d (kindAt (opAt c.ops i).f0) = A
  generalize hF : (if (opAt c.ops i).f0 = 19 then from_ else goesB (opAt c.ops i)) = F
  have h4 : ∀ x89 : Bool, 2 ≤ A ∧ A ≤ 4000 → bluebellref06_deep.j4 (k + 1) from_ (i : Int) A x89 c.name c.data c.ops c.gl c.procs c.labels a b (opAt c.ops i).f0 (opAt c.ops i).f1 (opAt c.ops i).f2 = some (!x89 && deepGo c.ops at_ (i + 1) A F) := by
   intro x89 hb
   rw [bluebellref06_deep.j4, at_succ i (by omega), goes_ref]
   cases x89
   ·rw [if_neg (by decide), Option.bind_some, ih A from_ k (by omega) (by unfold Small; omega), ih A _ k (by omega) (by unfold Small; omega), ← hF]
    by_cases e : (opAt c.ops i).f0 = 19
    ·rw [if_pos e, if_pos e]; rfl
    ·rw [if_neg e, if_neg e]; rfl
   ·rfl
  have h3 : ∀ x71 : Bool, 2 ≤ A ∧ A ≤ 4000 → bluebellref06_deep.j3 (k + 2) from_ (i : Int) A x71 c.name c.data c.ops c.gl c.procs c.labels a b (opAt c.ops i).f0 (opAt c.ops i).f1 (opAt c.ops i).f2 = some (!x71 && (jumpOk c.ops at_ (opAt c.ops i) && deepGo c.ops at_ (i + 1) A F)) := by
   intro x71 hb
   rw [show k + 2 = (k + 1) + 1 by omega, bluebellref06_deep.j3, label_g _ _ (by omega), Option.bind_some]
   cases x71
   ·rw [if_neg (by decide)]
    unfold jumpOk
    by_cases g : namedI (opAt c.ops i) > 0
    ·have hrr := hr (namedI (opAt c.ops i)) (by omega)
     obtain ⟨q, hq⟩ : ∃ q : Nat, rd at_ (namedI (opAt c.ops i)) = (q : Int) := ⟨(rd at_ (namedI (opAt c.ops i))).toNat, by omega⟩
     rw [if_pos g, if_pos (by omega), if_pos (by rw [ha]; omega), hpi g, hq, lands_ref c.ops ho hl _ q (k + 1) rfl (by omega) (by omega), Option.bind_some, h4 _ hb, decide_eq_true g, Int.toNat_natCast]
     cases ((leadOp c.ops q).f0 == 28) <;> cases ((opAt c.ops i).f0 == 27) <;> rfl
    ·rw [if_neg g, h4 _ hb, decide_eq_false g]; rfl
   ·rfl
  have h2 : ∀ x65 : Bool, (x65 = false → 2 ≤ A ∧ A ≤ 4000) → bluebellref06_deep.j2 (k + 3) from_ (i : Int) A x65 c.name c.data c.ops c.gl c.procs c.labels a b (opAt c.ops i).f0 (opAt c.ops i).f1 (opAt c.ops i).f2 = some (!x65 && (!(((opAt c.ops i).f0 == 28) && from_) && (jumpOk c.ops at_ (opAt c.ops i) && deepGo c.ops at_ (i + 1) A F))) := by
   intro x65 hb
   rw [show k + 3 = (k + 2) + 1 by omega, bluebellref06_deep.j2]
   cases x65
   ·rw [if_neg (by decide), h3 _ (hb rfl), h3 _ (hb rfl)]
    by_cases e : (opAt c.ops i).f0 = 28
    ·rw [if_pos e, e]; rfl
    ·rw [if_neg e, beq_eq_false_iff_ne.2 e]; rfl
   ·rfl
  have hks := kind_small (opAt c.ops i).f0.toNat (by
   have := of_decide_eq_true (and2 (and2 hop).1).2
   omega)
  have hk2 : Small (kindAt (opAt c.ops i).f0).f2 := by
   have := of_decide_eq_true (and2 (and2 hop).1).1
   have h := hks.1
   rwa [Int.toNat_of_nonneg (by omega)] at h
  have h1 : ∀ x10 : Bool, ((opAt c.ops i).f0 = 18 ∨ x10 = false) → bluebellref06_deep.j1 (k + 4) d from_ (i : Int) A x10 c.name c.data c.ops c.gl c.procs c.labels a b (opAt c.ops i).f0 (opAt c.ops i).f1 (opAt c.ops i).f2 = some ((fitsB (opAt c.ops i) d (kindAt (opAt c.ops i).f0) x10 && inB A 2 4000) && (!(((opAt c.ops i).f0 == 28) && from_) && (jumpOk c.ops at_ (opAt c.ops i) && deepGo c.ops at_ (i + 1) A F))) := by
   intro x10 hx
   unfold Small at hk2 hd
   rw [show k + 4 = (k + 3) + 1 by omega, bluebellref06_deep.j1, needs_ref hop e24 _ (by omega), Option.bind_some, w64 (d - _) (by omega), in_ref, Option.bind_some, local_ref _ _ hd _ (by omega), Option.bind_some, fits_local _ _ _ _ e24 hx]
   by_cases g : d - (kindAt (opAt c.ops i).f0).f2 < 2
   ·rw [if_pos g, h2 _ (fun h => absurd h (by decide)), decide_eq_true g, Bool.not_true, Bool.and_false]; rfl
   rw [if_neg g, decide_eq_false g]
   cases hin : inB A 2 4000 with
   | false => rw [if_neg (by decide), h2 _ (fun h => absurd h (by decide)), Bool.and_false]; rfl
   | true =>
    have hb := inB_iff hin
    rw [if_pos rfl, h2 _ (fun _ => hb), h2 _ (fun _ => hb)]
    cases x10 <;> cases localB (opAt c.ops i) d <;> rfl
  have hfit : ∀ x10 : Bool, (opAt c.ops i).f0 ≠ 18 → fitsB (opAt c.ops i) d (kindAt (opAt c.ops i).f0) x10 = fitsB (opAt c.ops i) d (kindAt (opAt c.ops i).f0) false := by
   intro x10 h
   unfold fitsB
   rw [if_neg h, if_neg h]
  have hfin : ∀ q : Bool, some ((fitsB (opAt c.ops i) d (kindAt (opAt c.ops i).f0) q && inB A 2 4000) && (!(((opAt c.ops i).f0 == 28) && from_) && (jumpOk c.ops at_ (opAt c.ops i) && deepGo c.ops at_ (i + 1) A F))) = some (if (fitsB (opAt c.ops i) d (kindAt (opAt c.ops i).f0) q && inB A 2 4000 && !(((opAt c.ops i).f0 == 28) && from_) && jumpOk c.ops at_ (opAt c.ops i)) = true then deepGo c.ops at_ (i + 1) A F else false) := by
   intro q
   generalize fitsB (opAt c.ops i) d (kindAt (opAt c.ops i).f0) q = x1
   generalize inB A 2 4000 = x2
   generalize ((opAt c.ops i).f0 == 28) = x3
   generalize jumpOk c.ops at_ (opAt c.ops i) = x4
   generalize deepGo c.ops at_ (i + 1) A F = x5
   cases x1 <;> cases x2 <;> cases x3 <;> cases from_ <;> cases x4 <;> rfl
  by_cases e18 : (opAt c.ops i).f0 = 18
  ·have hrd2 : rd_T35 c.ops (wrap64 ((i : Int) - 1)) = opAt c.ops (i - 1) := by
    rw [w64 _ (by omega), show (i : Int) - 1 = ((i - 1 : Nat) : Int) by omega]; rfl
   rw [if_pos e18, if_pos (by rw [w64 _ (by omega)]; omega), if_pos (by rw [w64 _ (by omega)]; omega), hrd2, h1 _ (.inl e18), decide_eq_true hi0, Bool.true_and]
   exact hfin _
  ·rw [if_neg e18, h1 _ (.inr rfl), ← hfit (decide (0 < i) && (opAt c.ops (i - 1)).f0 == 19) e18]
   exact hfin _
end Go.Proofs.Ytkmcanknbdaliaa.Lx
