/- The reference's look at the order of instructions, in plain words. -/
import Derived.Test.YtkmcanknbdaliaaQChecksRefNum
import Derived.Test.YtkmcanknbdaliaaQChecks2
namespace Go.Proofs.Ytkmcanknbdaliaa.Lx
open Go Go.RowKit Go.Proofs.YtkmcanknbdaliaaW.PrintWords Go.Proofs.YtkmcanknbdaliaaW.PrintLast Go.Proofs.YtkmcanknbdaliaaW.PrintMore Go.Proofs.Ytkmcanknbdaliaa.PO
def goesB (o : S35) : Bool := if o.f0 = 20 then false else if o.f0 = 25 then false else if o.f0 = 26 then false else if o.f0 = 27 then false else if o.f0 = 29 then false else o.f0 != 30
theorem goes_ref (o : S35) : bluebellref06_GoesOn.f o.f0 o.f1 o.f2 = some (goesB o) := by
 unfold bluebellref06_GoesOn.f goesB
 split
 ·rfl
 split
 ·rfl
 split
 ·rfl
 split
 ·rfl
 split <;> rfl
def rPost (l : List S35) (i : Nat) : Bool := !(goesB (opAt l i) && (decide (l.length ≤ i + 1) || (opAt l (i + 1)).f0 == 24)) && !(decide (i = 0) && !((opAt l i).f0 == 24))
def rOrd (l : List S35) (P L : Int) : Nat → Nat → Int → Int → Int → Bool
 | 0, _, procs, labels, cases => cases == 0 && (procs == P && labels == L)
 | n + 1, i, procs, labels, cases =>
  if (decide (cases > 0) != ((opAt l i).f0 == 30)) = true then false
  else if (opAt l i).f0 = 24 then (if (opAt l i).f1 = procs + 1 then rPost l i && rOrd l P L n (i + 1) (procs + 1) labels (if cases > 0 then cases - 1 else cases) else false)
  else if (opAt l i).f0 = 29 then rPost l i && rOrd l P L n (i + 1) procs labels (opAt l i).f2
  else if (opAt l i).f0 = 19 then labelOk l i && (rPost l i && rOrd l P L n (i + 1) procs (mx labels (opAt l i).f1) (if cases > 0 then cases - 1 else cases))
  else rPost l i && rOrd l P L n (i + 1) procs labels (if cases > 0 then cases - 1 else cases)
theorem tail_eq (l : List S35) (i : Nat) (g : Bool) (T : Option Bool) :
  (if g = true then (if ((i + 1 : Nat) : Int) ≥ (l.length : Int) then some false else (if 0 ≤ ((i + 1 : Nat) : Int) then (if ((i + 1 : Nat) : Int) < (l.length : Int) then (if (opAt l (i + 1)).f0 = 24 then some false else T) else none) else none)) else T)
   = if (g && (decide (l.length ≤ i + 1) || (opAt l (i + 1)).f0 == 24)) = true then some false else T := by
 cases g
 ·rfl
 rw [if_pos rfl]
 by_cases h : l.length ≤ i + 1
 ·rw [if_pos (by omega)]; simp [h]
 ·rw [if_neg (by omega), if_pos (by omega), if_pos (by omega)]
  by_cases h2 : (opAt l (i + 1)).f0 = 24
  ·simp [h, h2]
  ·simp [h, h2]
theorem order_l0 (c : Cod) (hl : c.ops.length ≤ 1000000) (hops : c.ops.all (opOk c) = true) : ∀ (n i : Nat) (procs labels cases : Int) (k : Nat), c.ops.length - i = n → i ≤ c.ops.length → 3 * n + 2 ≤ k → 0 ≤ procs → procs ≤ i → 0 ≤ cases → cases ≤ 1000 →
  bluebellref06_order.l0 k procs labels cases (i : Int) c.name c.data c.ops c.gl c.procs c.labels = some (rOrd c.ops c.procs c.labels n i procs labels cases)
 | 0, i, procs, labels, cases, k, hn, hi, hk, p0, p1, c0, c1 => by
  obtain ⟨k, rfl⟩ : ∃ m, k = m + 1 := ⟨k - 1, by omega⟩
  simp only [bluebellref06_order.l0]
  rw [if_neg (by omega), rOrd]
  by_cases g : cases = 0
  ·rw [if_pos g, beq_iff_eq.2 g]
   by_cases g2 : procs = c.procs
   ·rw [if_pos g2, beq_iff_eq.2 g2]; rfl
   ·rw [if_neg g2, beq_eq_false_iff_ne.2 g2]; rfl
  ·rw [if_neg g, beq_eq_false_iff_ne.2 g]; rfl
 | n + 1, i, procs, labels, cases, k, hn, hi, hk, p0, p1, c0, c1 => by
  obtain ⟨k, rfl⟩ : ∃ m, k = m + 1 := ⟨k - 1, by omega⟩
  have hlt : i < c.ops.length := by omega
  have hop : opOk c (opAt c.ops i) = true := by rw [op_get _ _ hlt]; exact List.all_eq_true.1 hops _ (List.getElem_mem hlt)
  have hsw : (opAt c.ops i).f0 = 29 → 0 ≤ (opAt c.ops i).f2 ∧ (opAt c.ops i).f2 ≤ 1000 := fun h => switch_ok hops i hlt h
  have ih := fun (pr la ca : Int) (m : Nat) (hm : 3 * n + 2 ≤ m) (q0 : 0 ≤ pr) (q1 : pr ≤ ((i + 1 : Nat) : Int)) (q2 : 0 ≤ ca) (q3 : ca ≤ 1000) => order_l0 c hl hops n (i + 1) pr la ca m (by omega) (by omega) hm q0 q1 q2 q3
  have hpost : rPost c.ops i = (!(goesB (opAt c.ops i) && (decide (c.ops.length ≤ i + 1) || (opAt c.ops (i + 1)).f0 == 24)) && !(decide (i = 0) && !((opAt c.ops i).f0 == 24))) := rfl
  have hlab : labelOk c.ops i = (decide (i + 1 < c.ops.length) && ((opAt c.ops (i + 1)).f0 == 18 || (opAt c.ops (i + 1)).f0 == 28 || (opAt c.ops (i + 1)).f0 == 19)) := rfl
  rw [rOrd]
  simp only [bluebellref06_order.l0]
  rw [if_pos (by omega), if_pos (by omega)]
  change (if (decide (cases > 0) != ((opAt c.ops i).f0 == 30)) = true then _ else _) = _
  by_cases hx : (decide (cases > 0) != ((opAt c.ops i).f0 == 30)) = true
  ·rw [if_pos hx, if_pos hx]
  rw [if_neg hx, if_neg hx]
  -- the body of a round
  have hj : ∀ cs : Int, 0 ≤ cs → cs ≤ 1000 → bluebellref06_order.j1 k procs labels cs (i : Int) c.name c.data c.ops c.gl c.procs c.labels (opAt c.ops i).f0 (opAt c.ops i).f1 (opAt c.ops i).f2 =
    some (if (opAt c.ops i).f0 = 24 then (if (opAt c.ops i).f1 = procs + 1 then rPost c.ops i && rOrd c.ops c.procs c.labels n (i + 1) (procs + 1) labels cs else false)
     else if (opAt c.ops i).f0 = 29 then rPost c.ops i && rOrd c.ops c.procs c.labels n (i + 1) procs labels (opAt c.ops i).f2
     else if (opAt c.ops i).f0 = 19 then labelOk c.ops i && (rPost c.ops i && rOrd c.ops c.procs c.labels n (i + 1) procs (mx labels (opAt c.ops i).f1) cs)
     else rPost c.ops i && rOrd c.ops c.procs c.labels n (i + 1) procs labels cs) := by
   intro cs s0 s1
   have hrd : rd_T35 c.ops ((i + 1 : Nat) : Int) = opAt c.ops (i + 1) := rfl
   obtain ⟨k, rfl⟩ : ∃ m, k = m + 1 := ⟨k - 1, by omega⟩
   rw [bluebellref06_order.j1]
   rw [goes_ref (opAt c.ops i), w64 (procs + 1) (by omega), at_succ i (by omega), hrd]
   simp only [Option.bind_some, tail_eq]
   generalize hX : (goesB (opAt c.ops i) && (decide (c.ops.length ≤ i + 1) || (opAt c.ops (i + 1)).f0 == 24)) = X at hpost ⊢
   rw [hpost]
   by_cases e1 : (opAt c.ops i).f0 = 24
   ·rw [if_pos e1, if_pos e1]
    by_cases e2 : (opAt c.ops i).f1 = procs + 1
    ·rw [if_pos e2, if_pos e2, ih (procs + 1) labels cs k (by omega) (by omega) (by omega) s0 s1, ite_self]
     cases X <;> simp [e1]
    ·rw [if_neg e2, if_neg e2]
   rw [if_neg e1, if_neg e1]
   by_cases e3 : (opAt c.ops i).f0 = 29
   ·rw [if_pos e3, if_pos e3, ih procs labels (opAt c.ops i).f2 k (by omega) (by omega) (by omega) (hsw e3).1 (hsw e3).2]
    cases X <;> by_cases e4 : i = 0 <;> (try subst e4) <;> simp_all
   rw [if_neg e3, if_neg e3]
   by_cases e5 : (opAt c.ops i).f0 = 19
   ·rw [if_pos e5, if_pos e5, ← hpost]
    obtain ⟨k, rfl⟩ : ∃ m, k = m + 1 := ⟨k - 1, by omega⟩
    have hj2 : ∀ (x8 x87 : Bool), (x87 = false → x8 = decide (((i + 1 : Nat) : Int) ≥ (c.ops.length : Int)) ∧ i + 1 < c.ops.length) → bluebellref06_order.j2 (k + 1) procs (mx labels (opAt c.ops i).f1) cs (i : Int) x8 x87 c.name c.data c.ops c.gl c.procs c.labels (opAt c.ops i).f0 (opAt c.ops i).f1 (opAt c.ops i).f2 = some (!x87 && (rPost c.ops i && rOrd c.ops c.procs c.labels n (i + 1) procs (mx labels (opAt c.ops i).f1) cs)) := by
     intro x8 x87 hx
     rw [bluebellref06_order.j2]
     cases x87
     ·obtain ⟨rfl, hx⟩ := hx rfl
      rw [if_neg (by decide), goes_ref (opAt c.ops i), at_succ i (by omega), hrd, ih procs (mx labels (opAt c.ops i).f1) cs k (by omega) (by omega) (by omega) s0 s1, hpost]
      have hno : (decide (((i + 1 : Nat) : Int) ≥ (c.ops.length : Int)) = true) = (((i + 1 : Nat) : Int) ≥ (c.ops.length : Int)) := by apply propext; simp
      simp only [Option.bind_some, hno, tail_eq, hX, if_neg e1]
      cases X <;> by_cases e4 : i = 0 <;> (try subst e4) <;> simp_all
     ·rfl
    rw [hlab]
    by_cases e6 : i + 1 < c.ops.length
    ·rw [if_neg (by omega), if_pos (by omega), if_pos (by omega), decide_eq_true e6]
     by_cases e7 : (opAt c.ops (i + 1)).f0 = 18
     ·rw [if_pos e7, hj2 _ _ (fun _ => ⟨rfl, e6⟩), e7]; rfl
     rw [if_neg e7]
     by_cases e8 : (opAt c.ops (i + 1)).f0 = 28
     ·rw [if_pos e8, hj2 _ _ (fun _ => ⟨rfl, e6⟩), e8]; rfl
     rw [if_neg e8, hj2 _ _ (fun _ => ⟨rfl, e6⟩), beq_eq_false_iff_ne.2 e7, beq_eq_false_iff_ne.2 e8]
     by_cases e9 : (opAt c.ops (i + 1)).f0 = 19
     ·rw [e9]; rfl
     ·rw [beq_eq_false_iff_ne.2 e9, bne_iff_ne.2 e9]; rfl
    ·rw [if_pos (by omega), hj2 _ _ (fun h => absurd h (by decide)), decide_eq_false e6]; rfl
   rw [if_neg e5, if_neg e5, ih procs labels cs k (by omega) (by omega) (by omega) s0 s1]
   cases X <;> by_cases e4 : i = 0 <;> (try subst e4) <;> simp_all
  by_cases hc : cases > 0
  ·rw [if_pos hc, if_pos hc, w64 (cases - 1) (by omega)]
   exact hj (cases - 1) (by omega) (by omega)
  ·rw [if_neg hc, if_neg hc]
   exact hj cases c0 c1
end Go.Proofs.Ytkmcanknbdaliaa.Lx
