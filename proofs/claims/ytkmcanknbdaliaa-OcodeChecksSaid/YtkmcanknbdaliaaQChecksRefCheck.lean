/- The reference's Check is the program's. -/
import Derived.Test.YtkmcanknbdaliaaQChecksRefStack
import Derived.Test.YtkmcanknbdaliaaQChecksRefAreas
import Derived.Test.YtkmcanknbdaliaaQChecksCheck
import Derived.Test.YtkmcanknbdaliaaQChecks4
namespace Go.Proofs.Ytkmcanknbdaliaa.Lx
open Go Go.RowKit Go.Proofs.YtkmcanknbdaliaaW.PrintWords Go.Proofs.YtkmcanknbdaliaaW.PrintLast Go.Proofs.YtkmcanknbdaliaaW.PrintMore Go.Proofs.Ytkmcanknbdaliaa.PO
theorem much_l0 (c : Cod) (hD : c.data.length ≤ 2000) (hf : ∀ d ∈ c.data, d.f0.size ≤ 1000000 ∧ d.f2.length ≤ 1000000) : ∀ (n i : Nat) (x : Int) (k : Nat), c.data.length - i = n → i ≤ c.data.length → n < k → 0 ≤ x → x ≤ 2000000 * (i : Int) →
  bluebellref06_tooMuch.l0 k x (i : Int) c.name c.data c.ops c.gl c.procs c.labels = some (decide (x + areasSize (c.data.drop i) > 7800))
 | 0, i, x, k, hn, hi, hk, h0, h1 => by
  obtain ⟨k, rfl⟩ : ∃ m, k = m + 1 := ⟨k - 1, by omega⟩
  obtain rfl : i = c.data.length := by omega
  simp only [bluebellref06_tooMuch.l0]
  rw [if_neg (by omega), List.drop_length]
  simp [areasSize]
 | n + 1, i, x, k, hn, hi, hk, h0, h1 => by
  obtain ⟨k, rfl⟩ : ∃ m, k = m + 1 := ⟨k - 1, by omega⟩
  have hlt : i < c.data.length := by omega
  have hm := hf _ (rdD_mem c.data i hlt)
  have e : areasSize (c.data.drop i) = areaSize (rd_T47 c.data (i : Int)) + areasSize (c.data.drop (i + 1)) := by rw [dropD c.data i hlt]; simp [areasSize]
  rw [e]
  simp only [bluebellref06_tooMuch.l0]
  rw [if_pos (by omega), if_pos (by omega)]
  generalize rd_T47 c.data (i : Int) = d at *
  have ei : wrap64 ((i : Int) + 1) = ((i + 1 : Nat) : Int) := by rw [w64 _ (by omega)]; simp
  have e2 : Int.tdiv ((d.f0.size : Int) + 2) 2 = ((d.f0.size : Int) + 2) / 2 := Int.tdiv_eq_ediv_of_nonneg (by omega)
  rw [ei]
  clear ei
  by_cases hb : d.f1 = true
  ·rw [if_pos hb]
   rw [w64 ((d.f0.size : Int) + 2) (by omega), e2]
   clear e2
   rw [w64 (((d.f0.size : Int) + 2) / 2) (by omega), w64 (x + (d.f2.length : Int)) (by omega), w64 _ (by omega)]
   rw [much_l0 c hD hf n (i + 1) _ k (by omega) (by omega) (by omega) (by omega) (by omega)]
   unfold areaSize
   rw [if_pos hb]
   congr 2
   rw [eq_iff_iff]
   omega
  ·rw [if_neg hb]
   rw [w64 (x + (d.f2.length : Int)) (by omega)]
   rw [much_l0 c hD hf n (i + 1) _ k (by omega) (by omega) (by omega) (by omega) (by omega)]
   unfold areaSize
   rw [if_neg hb]
   congr 2
   rw [eq_iff_iff]
   omega
theorem much_ref (c : Cod) (h : Fine c) (k : Nat) (hk : c.data.length + 2 ≤ k) : bluebellref06_tooMuch.f k c.name c.data c.ops c.gl c.procs c.labels = some (largeB c) := by
 obtain ⟨k, rfl⟩ : ∃ m, k = m + 1 := ⟨k - 1, by omega⟩
 unfold bluebellref06_tooMuch.f largeB
 simp only [bluebellref06_tooMuch.j0]
 by_cases a : (c.ops.length : Int) > 40000
 ·rw [if_pos a, decide_eq_true a]; rfl
 rw [if_neg a, decide_eq_false a]
 by_cases b : (c.data.length : Int) > 2000
 ·rw [if_pos b, decide_eq_true b]; rfl
 rw [if_neg b, decide_eq_false b]
 by_cases d : c.procs > 200
 ·rw [if_pos d, decide_eq_true d]; rfl
 rw [if_neg d, decide_eq_false d]
 by_cases e : c.labels > 20000
 ·rw [decide_eq_true e]; rfl
 rw [decide_eq_false e]
 have q := much_l0 c (by omega) h.w c.data.length 0 0 k (by omega) (by omega) (by omega) (by omega) (by omega)
 rw [show ((0 : Nat) : Int) = 0 from rfl, List.drop_zero, Int.zero_add] at q
 rw [if_neg (by decide), q]
 rfl
theorem placL_scan : ∀ (l : List S35) (i : Nat) (p la : Int) (at_ of_ : List Int) (r : List Int × List Int × Int × Int), placL l i p la at_ of_ = some r → scanL l p la = some (r.2.2.1, r.2.2.2)
 | [], _, _, _, _, _, _, h => by
  obtain rfl := Option.some.inj h
  rfl
 | o :: l, i, p, la, at_, of_, r, h => by
  rw [placL] at h
  rw [scanL]
  by_cases a : o.f0 = 24
  ·rw [if_pos a] at h ⊢
   by_cases b : o.f1 = p + 1
   ·rw [if_pos b] at h ⊢
    exact placL_scan l _ _ _ _ _ _ h
   ·rw [if_neg b] at h; exact absurd h (by simp)
  rw [if_neg a] at h ⊢
  by_cases b : o.f0 = 19
  ·rw [if_pos b] at h ⊢
   split at h
   ·exact absurd h (by simp)
   ·exact placL_scan l _ _ _ _ _ _ h
  ·rw [if_neg b] at h ⊢
   exact placL_scan l _ _ _ _ _ _ h
theorem placR_scan (c : Cod) (h : (placR c).2.2 = true) : scanOk c.procs c.labels (scanL c.ops 0 0) = true := by
 unfold placR at h
 cases hr : placL c.ops 0 0 0 (zeros c.labels.toNat) (zeros c.labels.toNat) with
 | none => rw [hr] at h; exact absurd h (by simp [placFin])
 | some r =>
  rw [hr] at h
  have := and2 (show (decide (r.2.2.1 = c.procs) && decide (r.2.2.2 = c.labels)) = true from h)
  rw [placL_scan _ _ _ _ _ _ _ hr]
  show (r.2.2.1 == c.procs && r.2.2.2 == c.labels) = true
  rw [beq_iff_eq.2 (of_decide_eq_true this.1), beq_iff_eq.2 (of_decide_eq_true this.2)]
  rfl
theorem order_ref (c : Cod) (hl : c.ops.length ≤ 1000000) (hops : c.ops.all (opOk c) = true) (k : Nat) (hk : 3 * c.ops.length + 2 ≤ k) : bluebellref06_order.f k c.name c.data c.ops c.gl c.procs c.labels = some (orderB c.ops && scanOk c.procs c.labels (scanL c.ops 0 0)) := by
 have h := order_l0 c hl hops c.ops.length 0 0 0 0 k (by omega) (by omega) hk (by omega) (by omega) (by omega) (by omega)
 rw [rOrd_eq c.ops c.procs c.labels (fun i hi h29 => (switch_ok hops i hi h29).1) c.ops.length 0 0 0 (by omega) (.inl rfl), List.drop_zero] at h
 exact h
theorem names_at {at_ of_ : List Int} : ∀ (l : List S35) (p : Int), namesB at_ of_ l p = true → ∀ o ∈ l, namedI o > 0 → rd at_ (namedI o) ≠ 0
 | [], _, _, _, h, _ => absurd h (by simp)
 | a :: l, p, h, o, ho, hg => by
  rw [namesB] at h
  by_cases hn : namedI a > 0 ∧ (rd of_ (namedI a) ≠ (if a.f0 = 24 then a.f1 else p) ∨ rd at_ (namedI a) = 0)
  ·rw [if_pos hn] at h; exact absurd h (by simp)
  ·rw [if_neg hn] at h
   rcases List.mem_cons.1 ho with rfl | ho
   ·exact fun e => hn ⟨hg, .inr e⟩
   ·exact names_at l _ h o ho hg
theorem enters_ok {c : Cod} (h : c.ops.all (opOk c) = true) : ∀ i, i < c.ops.length → (opAt c.ops i).f0 = 24 → 0 ≤ (opAt c.ops i).f2 ∧ (opAt c.ops i).f2 ≤ 8 := by
 intro i hi h24
 have hop : opOk c (opAt c.ops i) = true := by rw [op_get _ _ hi]; exact List.all_eq_true.1 h _ (List.getElem_mem hi)
 have := (and2 (opOk_num hop)).2
 rw [if_pos h24] at this
 exact inB_iff this
/-- The loop over the instructions and what comes behind it. -/
theorem check_l0 (c : Cod) (hf : Fine c) (hs : largeB c = false) (hp0 : 0 ≤ c.procs) (hl0 : 0 ≤ c.labels) (T : Int)
  (hT : ∀ k, 10 * c.ops.length + c.labels.toNat + 20 ≤ k → c.ops.all (opOk c) = true → ((bluebellref06_order.f k c.name c.data c.ops c.gl c.procs c.labels).bind fun t454 => (if t454 = true then ((bluebellref06_placed.f k c.name c.data c.ops c.gl c.procs c.labels).bind fun bt455 => (if bt455.2.2 = true then ((bluebellref06_deep.f k c.name c.data c.ops c.gl c.procs c.labels bt455.1 bt455.2.1).bind fun t463 => (if t463 = true then (some 0) else (some 61))) else (some 60))) else (some 60))) = some T) :
  ∀ (n i k : Nat), c.ops.length - i = n → i ≤ c.ops.length → n + 10 * c.ops.length + c.labels.toNat + 30 ≤ k → (∀ j, j < i → opOk c (opAt c.ops j) = true) → bluebellref06_Check.l0 k (i : Int) c.name c.data c.ops c.gl c.procs c.labels = some (if c.ops.all (opOk c) = true then T else 60)
 | 0, i, k, hn, hi, hk, hall => by
  obtain ⟨k, rfl⟩ : ∃ m, k = m + 1 := ⟨k - 1, by omega⟩
  have ha : c.ops.all (opOk c) = true := ops_all (fun j hj => hall j (by omega))
  rw [bluebellref06_Check.l0, if_neg (by omega), hT k (by omega) ha, if_pos ha]
 | n + 1, i, k, hn, hi, hk, hall => by
  obtain ⟨k, rfl⟩ : ∃ m, k = m + 1 := ⟨k - 1, by omega⟩
  have hlt : i < c.ops.length := by omega
  have hrd : rd_T35 c.ops (i : Int) = opAt c.ops i := rfl
  have hlim : c.procs ≤ 200 ∧ c.labels ≤ 20000 := by
   unfold largeB at hs
   simp only [Bool.or_eq_false_iff, decide_eq_false_iff_not] at hs
   omega
  have ho := hf.o
  rw [bluebellref06_Check.l0, if_pos (by omega), if_pos (by omega), hrd, numbers_ref c _ k (by omega) hlim.1 hlim.2 hf.d, Option.bind_some, at_succ i (by omega)]
  cases hop : opOk c (opAt c.ops i) with
  | false => rw [if_neg (by decide), ops_bad c i hlt hop]; rfl
  | true =>
   rw [if_pos rfl]
   exact check_l0 c hf hs hp0 hl0 T hT n (i + 1) k (by omega) (by omega) (by omega) (ops_next hall hop)
theorem check_ref (c : Cod) (hf : Fine c) : ∃ K, ∀ k, K ≤ k → bluebellref06_Check.f k c.name c.data c.ops c.gl c.procs c.labels = some (checkI c) := by
 obtain ⟨K, hK⟩ := areas_ref c hf
 refine ⟨K + c.data.length + 12 * c.ops.length + c.labels.toNat + 50, fun k hk => ?_⟩
 unfold bluebellref06_Check.f checkI
 rw [much_ref c hf k (by omega), Option.bind_some]
 by_cases hs : largeB c = true
 ·rw [if_pos hs, if_pos hs]
 rw [if_neg hs, if_neg hs]
 have hs := Bool.not_eq_true _ |>.mp hs
 obtain ⟨k, rfl⟩ : ∃ m, k = m + 1 := ⟨k - 1, by omega⟩
 rw [hK (k + 1) (by omega), Option.bind_some]
 simp only [bluebellref06_Check.j0]
 have hlim : c.procs ≤ 200 ∧ c.labels ≤ 20000 := by
  unfold largeB at hs
  simp only [Bool.or_eq_false_iff, decide_eq_false_iff_not] at hs
  omega
 have ho := hf.o
 unfold codedB
 by_cases p0 : c.procs < 0
 ·rw [if_pos p0, decide_eq_false (by omega : ¬ 0 ≤ c.procs)]
  simp
 rw [if_neg p0, decide_eq_true (by omega : 0 ≤ c.procs)]
 by_cases l0 : c.labels < 0
 ·rw [if_pos l0, decide_eq_false (by omega : ¬ 0 ≤ c.labels)]
  simp
 rw [if_neg l0, decide_eq_true (by omega : 0 ≤ c.labels)]
 cases hq : decide ((quoteR c.name).2 = 0) with
 | false => rw [Bool.and_false]; rfl
 | true =>
  cases har : areasB c with
  | false => simp
  | true =>
   rw [if_neg (by decide)]
   have hfin := check_l0 c hf hs (by omega) (by omega) (if (orderB c.ops && ((placR c).2.2 && namesB (placR c).1 (placR c).2.1 c.ops 0)) = true then (if stackedB c = true then 0 else 61) else 60) (fun k hk hops => by
    rw [order_ref c ho hops k (by omega), Option.bind_some]
    by_cases hor : orderB c.ops = true
    ·rw [hor]
     cases hsc : scanOk c.procs c.labels (scanL c.ops 0 0) with
     | false =>
      have : (placR c).2.2 = false := by
       cases h : (placR c).2.2 with
       | false => rfl
       | true => rw [placR_scan c h] at hsc; exact absurd hsc (by decide)
      rw [this]
      rfl
     | true =>
      have h24 : 0 < c.ops.length → (opAt c.ops 0).f0 = 24 := fun h => by
       rcases first_go c.ops 0 hor with h1 | h1
       ·omega
       ·exact h1
      obtain ⟨L, hL⟩ : ∃ L : Nat, c.labels = (L : Int) := ⟨c.labels.toNat, by omega⟩
      obtain ⟨a, b, hp, hq⟩ := placed_ref c ho L hL (by omega) hops h24 hsc k (by omega)
      rw [hp, Bool.true_and, if_pos rfl, Option.bind_some]
      cases hb : ((placR c).2.2 && namesB (placR c).1 (placR c).2.1 c.ops 0) with
      | false => rfl
      | true =>
       obtain ⟨q1, q2⟩ := hq hb
       have hb := and2 hb
       have hsw : ∀ i, i < c.ops.length → (opAt c.ops i).f0 = 29 → 0 ≤ (opAt c.ops i).f2 := fun i hi h29 => (switch_ok hops i hi h29).1
       have hd := deep_l0 c ho L hL hops hor (fun i hi => by
         have hop : opOk c (opAt c.ops i) = true := by rw [op_get _ _ hi]; exact List.all_eq_true.1 hops _ (List.getElem_mem hi)
         exact op_small hop (by omega) (by omega) hf.d) (enters_ok hops) (placR c).1 a b q1 (fun i hi hg => by
         have hop : opOk c (opAt c.ops i) = true := by rw [op_get _ _ hi]; exact List.all_eq_true.1 hops _ (List.getElem_mem hi)
         have hnm := named_ok (by omega : 0 ≤ c.labels) hop
         exact q2 _ (by omega) (by omega) (names_at c.ops 0 hb.2 _ (by rw [op_get _ _ hi]; exact List.getElem_mem hi) hg)) (fun j h => placR_range c h j) c.ops.length 0 0 false k (by omega) (by omega) (by omega) (by unfold Small; omega) (fun _ => by
         rcases Nat.eq_zero_or_pos c.ops.length with h | h
         ·exact .inr h
         ·exact .inl (h24 h))
       rw [deep_stack c.ops _ hor hsw (enters_ok hops) c.ops.length 0 0 false (by omega)] at hd
       rw [show bluebellref06_deep.f k c.name c.data c.ops c.gl c.procs c.labels a b = some (stackedB c) from hd.trans (by unfold stackedB; simp), Option.bind_some]
       cases stackedB c <;> rfl
    ·rw [Bool.not_eq_true _ |>.mp hor]
     rfl) c.ops.length 0 k (by omega) (by omega) (by omega) (fun j h => absurd h (by omega))
   refine hfin.trans ?_
   cases c.ops.all (opOk c) <;> cases (placR c).2.2 <;> cases orderB c.ops <;> cases namesB (placR c).1 (placR c).2.1 c.ops 0 <;> rfl
end Go.Proofs.Ytkmcanknbdaliaa.Lx
