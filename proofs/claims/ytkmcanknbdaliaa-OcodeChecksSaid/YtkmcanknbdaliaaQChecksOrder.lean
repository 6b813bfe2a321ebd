/- The contract of ocode.order: whether instructions follow each other as said. -/
import Derived.Test.YtkmcanknbdaliaaQChecksPure
import Derived.RegionTactic
import Derived.ChangeAlike
import Derived.Deep.DeepCutAuto
import Derived.Deep.QuietTactic
import Derived.BigQuiet
import Derived.WalkSmall
import Derived.Outline
namespace Go.Proofs.Ytkmcanknbdaliaa.Lx
open Go Go.RowKit Go.Proofs.YtkmcanknbdaliaaW.PrintWords Go.Proofs.YtkmcanknbdaliaaW.PrintLast Go.Proofs.YtkmcanknbdaliaaW.PrintMore Go.Proofs.Ytkmcanknbdaliaa.PO
/-- n cases from a place on. -/
def casesB (l : List Op) (i n : Nat) : Bool := (List.range n).all fun k => decide (i + k < l.length) && (opAt l (i + k)).f0 == 30
def lastOk (l : List Op) (j : Nat) : Bool := if j + 1 = l.length ∨ (opAt l (j + 1)).f0 = 24 then endsB l j else true
def labelOk (l : List Op) (i : Nat) : Bool := decide (i + 1 < l.length) && ((opAt l (i + 1)).f0 == 18 || (opAt l (i + 1)).f0 == 28 || (opAt l (i + 1)).f0 == 19)
def orderGo (l : List Op) (i : Nat) : Bool :=
 if i < l.length then
  if (opAt l i).f0 = 29 then
   casesB l (i + 1) (opAt l i).f2.toNat && !(decide (i + (opAt l i).f2.toNat + 1 < l.length) && (opAt l (i + (opAt l i).f2.toNat + 1)).f0 == 30) && lastOk l (i + (opAt l i).f2.toNat) && orderGo l (i + (opAt l i).f2.toNat + 1)
  else if (opAt l i).f0 = 30 then false
  else if (opAt l i).f0 = 19 then labelOk l i && lastOk l i && orderGo l (i + 1)
  else lastOk l i && orderGo l (i + 1)
 else decide (l.length = 0) || (opAt l 0).f0 == 24
termination_by l.length - i
def orderB (l : List Op) : Bool := orderGo l 0
theorem cases_all {l : List Op} {i n : Nat} (h : ∀ j, j < n → i + j < l.length ∧ (opAt l (i + j)).f0 = 30) : casesB l i n = true := by
 refine List.all_eq_true.2 fun j hj => ?_
 obtain ⟨h1, h2⟩ := h j (List.mem_range.1 hj)
 rw [decide_eq_true h1, h2]
 rfl
theorem cases_no {l : List Op} {i n j : Nat} (hj : j < n) (h : ¬ (i + j < l.length ∧ (opAt l (i + j)).f0 = 30)) : casesB l i n = false := by
 refine List.all_eq_false.2 ⟨j, List.mem_range.2 hj, fun e => h ?_⟩
 have := Bool.and_eq_true_iff.1 e
 exact ⟨of_decide_eq_true this.1, beq_iff_eq.1 this.2⟩
theorem cases_next {l : List Op} {i n : Nat} (h : ∀ j, j < n → i + j < l.length ∧ (opAt l (i + j)).f0 = 30) (h1 : i + n < l.length) (h2 : (opAt l (i + n)).f0 = 30) : ∀ j, j < n + 1 → i + j < l.length ∧ (opAt l (i + j)).f0 = 30 := by
 intro j hj
 by_cases e : j < n
 ·exact h j e
 ·obtain rfl : j = n := by omega
  exact ⟨h1, h2⟩
theorem ends_calls' (l : List Op) (A : Option Addr) (cc : Nat) (i : Nat) (n : Int) (w : World) (h : Kd.C k35 w A l.length l) (hc : l.length ≤ cc) (hi : i < l.length) (hl : l.length ≤ 1000000) (hn : n = i) : Calls Try.prog 69 #[.slice A l.length cc, .int .i64 n] w fun e w' => e = .returned (.bool (endsB l i)) ∧ Drawn0 w w' := by
 subst hn
 exact ends_calls l A cc i w h hc hi hl
theorem op_cells {l : List Op} {A : Option Addr} {w W : World} (h : Kd.C k35 w A l.length l) (i : Nat) (hi : i < l.length) (o : Op) (ho : o = opAt l i) (n : Nat) (hW : W = w.drewN n) :
  ∃ ad, A = some ad ∧ W.cell? (ad.add (i * 3)) = some (.int .i64 o.f0) ∧ W.cell? ⟨(ad.add (i * 3)).block, (ad.add (i * 3)).off + 1, none⟩ = some (.int .i64 o.f1) ∧ W.cell? ⟨(ad.add (i * 3)).block, (ad.add (i * 3)).off + 2, none⟩ = some (.int .i64 o.f2) := by
 subst ho
 subst hW
 exact at_T35 h (i : Int) (by omega) (by omega)
set_option maxRecDepth 100000 in
set_option maxHeartbeats 8000000 in
theorem order_calls (l : List Op) (A : Option Addr) (cc : Nat) (w : World) (h : Kd.C k35 w A l.length l) (hc : l.length ≤ cc) (hl : l.length ≤ 1000000) (hs : ∀ i, i < l.length → (opAt l i).f0 = 29 → 0 ≤ (opAt l i).f2 ∧ (opAt l i).f2 ≤ 1000) :
  Calls Try.prog 65 #[.slice A l.length cc] w fun e w' => e = .returned (.bool (orderB l)) ∧ Drawn0 w w' := by
 have H := Lib.hid h
 have HS := Lib.hid hs
 clear h hs
 go_enter Try.func65, Try.ntmps65
 go_wp2_with fail
 go_loopw [2, 3] (fun v2 i wr => ∃ k : Nat, k ≤ l.length ∧ v2 = .bool false ∧ i = .int .i64 k ∧ Hid (orderB l = orderGo l k) ∧ ∃ m, wr = w.drewN m) (fun _ i _ => l.length - (intOf i).toNat)
 case atStart => exact ⟨0, by omega, rfl, rfl, Lib.hid rfl, 0, rfl⟩
 case round =>
  obtain ⟨k, hk, rfl, rfl, HA, m, rfl⟩ := hrel
  by_cases hlt : k < l.length
  ·obtain ⟨o, ho⟩ : ∃ o, o = opAt l k := ⟨_, rfl⟩
   obtain ⟨ad, had, hx0, hx1, hx2⟩ := op_cells H.out k hlt o ho m rfl
   have HO := Lib.hid ho
   have HG := HA.out
   rw [orderGo, if_pos hlt, ← ho] at HG
   clear ho HA
   have H2 : Hid (Kd.C k35 w (some ad) l.length l) := Lib.hid (had ▸ H.out)
   rw [had]
   by_cases h29 : o.f0 = 29
   ·have hb29 : (o.f0 == 29) = true := beq_iff_eq.2 h29
    rw [if_pos h29] at HG
    have HA := Lib.hid HG
    clear HG
    have hM := HS.out k hlt (by rw [← HO.out]; exact h29)
    rw [← HO.out] at hM
    obtain ⟨M, hM2⟩ : ∃ M : Nat, o.f2 = M := ⟨o.f2.toNat, by omega⟩
    rw [hM2] at hM hx2 HA
    rw [Int.toNat_natCast] at HA
    clear h29
    go_wp2_with fail
    go_loopw [2, 29] (fun v2 i ws => ∃ p : Nat, p ≤ M ∧ v2 = .bool false ∧ i = .int .i64 p ∧ Hid (∀ j, j < p → k + 1 + j < l.length ∧ (opAt l (k + 1 + j)).f0 = 30) ∧ ∃ m, ws = w.drewN m) (fun _ i _ => M - (intOf i).toNat)
    case atStart => exact ⟨0, by omega, rfl, rfl, Lib.hid (fun j hj => absurd hj (by omega)), m, rfl⟩
    case round =>
     obtain ⟨p, hp, rfl, rfl, HC, m, rfl⟩ := hrel
     by_cases hpm : p < M
     ·by_cases hin : k + 1 + p < l.length
      ·obtain ⟨q, hq⟩ : ∃ q, q = opAt l (k + 1 + p) := ⟨_, rfl⟩
       obtain ⟨ad', had', hy0, hy1, hy2⟩ := op_cells H.out (k + 1 + p) hin q hq m rfl
       rw [had] at had'
       obtain rfl : ad = ad' := Option.some.inj had'
       have HQ := Lib.hid hq
       have hin2 : ¬ (l.length : Int) ≤ (k : Int) + 1 + (p : Int) := by omega
       clear had' hy1 hy2 hq
       cases hb30 : (q.f0 != 30) with
       | false =>
        have HC2 : Hid (∀ j, j < p + 1 → k + 1 + j < l.length ∧ (opAt l (k + 1 + j)).f0 = 30) := Lib.hid (cases_next HC.out hin (by rw [← HQ.out]; exact bne_eq_false_iff_eq.1 hb30))
        go_wp2_with fail
        go_roundw
        case rel => exact ⟨p + 1, by omega, rfl, by go_num, HC2, m, rfl⟩
        case measure => simp [intOf]; omega
       | true =>
        have HN : Hid (orderB l = false) := Lib.hid (by rw [HA.out, cases_no hpm (fun e => bne_iff_ne.1 hb30 (by rw [HQ.out]; exact e.2))]; rfl)
        go_wp2_with fail
        go_ret
        exact ⟨by rw [HN.out]; rfl, m, rfl⟩
      ·have hin2 : (l.length : Int) ≤ (k : Int) + 1 + (p : Int) := by omega
       have HN : Hid (orderB l = false) := Lib.hid (by rw [HA.out, cases_no hpm (fun e => hin e.1)]; rfl)
       go_wp2_with fail
       go_ret
       exact ⟨by rw [HN.out]; rfl, m, rfl⟩
     ·skip
      obtain rfl : p = M := by omega
      have hz2 : (w.drewN m).cell? ⟨(ad.add (k * 3)).block, (ad.add (k * 3)).off + 2, none⟩ = some (.int .i64 p) := hx2
      have hkm : k + p < l.length := by
       rcases Nat.eq_zero_or_pos p with e | e
       ·omega
       ·have := (HC.out (p - 1) (by omega)).1
        omega
      have HT0 : Hid (casesB l (k + 1) p = true) := Lib.hid (cases_all HC.out)
      by_cases hlast : k + p + 1 = l.length
      ·have HT : Hid (orderB l = (lastOk l (k + p) && orderGo l (k + p + 1))) := Lib.hid (by rw [HA.out, HT0.out, decide_eq_false (by omega : ¬ k + p + 1 < l.length)]; rfl)
       have hlb : ((k : Int) + (p : Int) + 1 == (l.length : Int)) = true := beq_iff_eq.2 (by omega)
       have HP : Hid (k + p + 1 = l.length ∨ (opAt l (k + p + 1)).f0 = 24) := Lib.hid (.inl hlast)

       go_wp2_with fail
       refine (ends_calls' l (some ad) cc (k + p) ((k : Int) + (p : Int)) _ (Kd.C_below H2.out (below_drewN (Below.refl _ _) _)) hc (by omega) hl (by omega)).mono ?_
       rintro e w2 ⟨rfl, m', rfl⟩
       cases he : endsB l (k + p) with
       | false =>
        have HN : Hid (orderB l = false) := Lib.hid (by rw [HT.out, lastOk, if_pos HP.out, he]; rfl)
        clear he
        go_wp2_with fail
        go_ret
        exact ⟨by rw [HN.out]; rfl, m + m', rfl⟩
       | true =>
        have HA2 : Hid (orderB l = orderGo l (k + p + 1)) := Lib.hid (by rw [HT.out, lastOk, if_pos HP.out, he, Bool.true_and])
        clear he
        go_wp2_with fail
        go_roundw
        case rel => exact ⟨k + p + 1, by omega, rfl, by go_num, HA2, m + m', rfl⟩
        case measure => simp [intOf]; omega
      ·have hlb : ((k : Int) + (p : Int) + 1 == (l.length : Int)) = false := beq_eq_false_iff_ne.2 (by omega)
       obtain ⟨q, hq⟩ : ∃ q, q = opAt l (k + p + 1) := ⟨_, rfl⟩
       obtain ⟨ad', had', hy0, hy1, hy2⟩ := op_cells H.out (k + p + 1) (by omega) q hq m rfl
       rw [had] at had'
       obtain rfl : ad = ad' := Option.some.inj had'
       have HQ := Lib.hid hq
       clear had' hy1 hy2 hq
       cases h30 : (q.f0 == 30) with
       | true =>
        have HN : Hid (orderB l = false) := Lib.hid (by rw [HA.out, ← HQ.out, h30, decide_eq_true (by omega : k + p + 1 < l.length), HT0.out]; rfl)
        go_wp2_with fail
        go_ret
        exact ⟨by rw [HN.out]; rfl, m, rfl⟩
       | false =>
        have HT : Hid (orderB l = (lastOk l (k + p) && orderGo l (k + p + 1))) := Lib.hid (by rw [HA.out, HT0.out, ← HQ.out, h30, Bool.and_false]; rfl)
        cases h24 : (q.f0 == 24) with
        | true =>
         have HP : Hid (k + p + 1 = l.length ∨ (opAt l (k + p + 1)).f0 = 24) := Lib.hid (.inr (by rw [← HQ.out]; exact beq_iff_eq.1 h24))
         go_wp2_with fail
         refine (ends_calls' l (some ad) cc (k + p) ((k : Int) + (p : Int)) _ (Kd.C_below H2.out (below_drewN (Below.refl _ _) _)) hc (by omega) hl (by omega)).mono ?_
         rintro e w2 ⟨rfl, m', rfl⟩
         cases he : endsB l (k + p) with
         | false =>
          have HN : Hid (orderB l = false) := Lib.hid (by rw [HT.out, lastOk, if_pos HP.out, he]; rfl)
          clear he
          go_wp2_with fail
          go_ret
          exact ⟨by rw [HN.out]; rfl, m + m', rfl⟩
         | true =>
          have HA2 : Hid (orderB l = orderGo l (k + p + 1)) := Lib.hid (by rw [HT.out, lastOk, if_pos HP.out, he, Bool.true_and])
          clear he
          go_wp2_with fail
          go_roundw
          case rel => exact ⟨k + p + 1, by omega, rfl, by go_num, HA2, m + m', rfl⟩
          case measure => simp [intOf]; omega
        | false =>
         have HP : Hid (¬ (k + p + 1 = l.length ∨ (opAt l (k + p + 1)).f0 = 24)) := Lib.hid (by rw [← HQ.out]; exact fun e => e.elim hlast (beq_eq_false_iff_ne.1 h24))
         have HA2 : Hid (orderB l = orderGo l (k + p + 1)) := Lib.hid (by rw [HT.out, lastOk, if_neg HP.out, Bool.true_and])
         go_wp2_with fail
         go_roundw
         case rel => exact ⟨k + p + 1, by omega, rfl, by go_num, HA2, m, rfl⟩
         case measure => simp [intOf]; omega
   ·have hb29 : (o.f0 == 29) = false := beq_eq_false_iff_ne.2 h29
    rw [if_neg h29] at HG
    by_cases h30 : o.f0 = 30
    ·have hb30 : (o.f0 == 30) = true := beq_iff_eq.2 h30
     rw [if_pos h30] at HG
     have HN := Lib.hid HG
     clear HG
     go_wp2_with fail
     go_ret
     exact ⟨by rw [HN.out]; rfl, m, rfl⟩
    ·have hb30 : (o.f0 == 30) = false := beq_eq_false_iff_ne.2 h30
     rw [if_neg h30] at HG
     by_cases h19 : o.f0 = 19
     ·have hb19 : (o.f0 == 19) = true := beq_iff_eq.2 h19
      rw [if_pos h19] at HG
      have HA := Lib.hid HG
      clear HG h19 h30 h29
      by_cases hlast : k + 1 = l.length
      ·have hlb : ((k : Int) + 1 == (l.length : Int)) = true := beq_iff_eq.2 (by omega)
       have HN : Hid (orderB l = false) := Lib.hid (by rw [HA.out, labelOk, decide_eq_false (by omega : ¬ k + 1 < l.length)]; rfl)
       go_wp2_with fail
       go_ret
       exact ⟨by rw [HN.out]; rfl, m, rfl⟩
      ·have hlb : ((k : Int) + 1 == (l.length : Int)) = false := beq_eq_false_iff_ne.2 (by omega)
       obtain ⟨q, hq⟩ : ∃ q, q = opAt l (k + 1) := ⟨_, rfl⟩
       obtain ⟨ad', had', hy0, hy1, hy2⟩ := op_cells H.out (k + 1) (by omega) q hq m rfl
       rw [had] at had'
       obtain rfl : ad = ad' := Option.some.inj had'
       have HQ := Lib.hid hq
       clear had' hy1 hy2 hq
       by_cases a18 : q.f0 = 18
       ·have HT : Hid (orderB l = (lastOk l k && orderGo l (k + 1))) := Lib.hid (by rw [HA.out, labelOk, ← HQ.out, a18, decide_eq_true (by omega : k + 1 < l.length)]; rfl)
        have HP : Hid (¬ (k + 1 = l.length ∨ (opAt l (k + 1)).f0 = 24)) := Lib.hid (by rw [← HQ.out, a18]; exact fun e => e.elim hlast (by decide))
        rw [a18] at hy0
        have HA2 : Hid (orderB l = orderGo l (k + 1)) := Lib.hid (by rw [HT.out, lastOk, if_neg HP.out, Bool.true_and])
        go_wp2_with fail
        go_roundw
        case rel => exact ⟨k + 1, by omega, rfl, by go_num, HA2, m, rfl⟩
        case measure => simp [intOf]; omega
       by_cases a28 : q.f0 = 28
       ·have HT : Hid (orderB l = (lastOk l k && orderGo l (k + 1))) := Lib.hid (by rw [HA.out, labelOk, ← HQ.out, a28, decide_eq_true (by omega : k + 1 < l.length)]; rfl)
        have HP : Hid (¬ (k + 1 = l.length ∨ (opAt l (k + 1)).f0 = 24)) := Lib.hid (by rw [← HQ.out, a28]; exact fun e => e.elim hlast (by decide))
        rw [a28] at hy0
        have HA2 : Hid (orderB l = orderGo l (k + 1)) := Lib.hid (by rw [HT.out, lastOk, if_neg HP.out, Bool.true_and])
        go_wp2_with fail
        go_roundw
        case rel => exact ⟨k + 1, by omega, rfl, by go_num, HA2, m, rfl⟩
        case measure => simp [intOf]; omega
       by_cases a19 : q.f0 = 19
       ·have HT : Hid (orderB l = (lastOk l k && orderGo l (k + 1))) := Lib.hid (by rw [HA.out, labelOk, ← HQ.out, a19, decide_eq_true (by omega : k + 1 < l.length)]; rfl)
        have HP : Hid (¬ (k + 1 = l.length ∨ (opAt l (k + 1)).f0 = 24)) := Lib.hid (by rw [← HQ.out, a19]; exact fun e => e.elim hlast (by decide))
        rw [a19] at hy0
        have HA2 : Hid (orderB l = orderGo l (k + 1)) := Lib.hid (by rw [HT.out, lastOk, if_neg HP.out, Bool.true_and])
        go_wp2_with fail
        go_roundw
        case rel => exact ⟨k + 1, by omega, rfl, by go_num, HA2, m, rfl⟩
        case measure => simp [intOf]; omega
       have b18 : (q.f0 != 18) = true := bne_iff_ne.2 a18
       have b28 : (q.f0 != 28) = true := bne_iff_ne.2 a28
       have b19 : (q.f0 != 19) = true := bne_iff_ne.2 a19
       have HN : Hid (orderB l = false) := Lib.hid (by rw [HA.out, labelOk, ← HQ.out, beq_eq_false_iff_ne.2 a18, beq_eq_false_iff_ne.2 a28, beq_eq_false_iff_ne.2 a19]; cases decide (k + 1 < l.length) <;> rfl)
       go_wp2_with fail
       go_ret
       exact ⟨by rw [HN.out]; rfl, m, rfl⟩
     ·have hb19 : (o.f0 == 19) = false := beq_eq_false_iff_ne.2 h19
      rw [if_neg h19] at HG
      have HA := Lib.hid HG
      clear HG h19 h30 h29
      by_cases hlast : k + 1 = l.length
      ·have hlb : ((k : Int) + 1 == (l.length : Int)) = true := beq_iff_eq.2 (by omega)
       have HT := HA
       have HP : Hid (k + 1 = l.length ∨ (opAt l (k + 1)).f0 = 24) := Lib.hid (.inl hlast)

       go_wp2_with fail
       refine (ends_calls' l (some ad) cc (k) ((k : Int)) _ (Kd.C_below H2.out (below_drewN (Below.refl _ _) _)) hc (by omega) hl (by omega)).mono ?_
       rintro e w2 ⟨rfl, m', rfl⟩
       cases he : endsB l (k) with
       | false =>
        have HN : Hid (orderB l = false) := Lib.hid (by rw [HT.out, lastOk, if_pos HP.out, he]; rfl)
        clear he
        go_wp2_with fail
        go_ret
        exact ⟨by rw [HN.out]; rfl, m + m', rfl⟩
       | true =>
        have HA2 : Hid (orderB l = orderGo l (k + 1)) := Lib.hid (by rw [HT.out, lastOk, if_pos HP.out, he, Bool.true_and])
        clear he
        go_wp2_with fail
        go_roundw
        case rel => exact ⟨k + 1, by omega, rfl, by go_num, HA2, m + m', rfl⟩
        case measure => simp [intOf]; omega
      ·have hlb : ((k : Int) + 1 == (l.length : Int)) = false := beq_eq_false_iff_ne.2 (by omega)
       have HT := HA
       obtain ⟨q, hq⟩ : ∃ q, q = opAt l (k + 1) := ⟨_, rfl⟩
       obtain ⟨ad', had', hy0, hy1, hy2⟩ := op_cells H.out (k + 1) (by omega) q hq m rfl
       rw [had] at had'
       obtain rfl : ad = ad' := Option.some.inj had'
       have HQ := Lib.hid hq
       clear had' hy1 hy2 hq
       cases h24 : (q.f0 == 24) with
       | true =>
        have HP : Hid (k + 1 = l.length ∨ (opAt l (k + 1)).f0 = 24) := Lib.hid (.inr (by rw [← HQ.out]; exact beq_iff_eq.1 h24))
        go_wp2_with fail
        refine (ends_calls' l (some ad) cc (k) ((k : Int)) _ (Kd.C_below H2.out (below_drewN (Below.refl _ _) _)) hc (by omega) hl (by omega)).mono ?_
        rintro e w2 ⟨rfl, m', rfl⟩
        cases he : endsB l (k) with
        | false =>
         have HN : Hid (orderB l = false) := Lib.hid (by rw [HT.out, lastOk, if_pos HP.out, he]; rfl)
         clear he
         go_wp2_with fail
         go_ret
         exact ⟨by rw [HN.out]; rfl, m + m', rfl⟩
        | true =>
         have HA2 : Hid (orderB l = orderGo l (k + 1)) := Lib.hid (by rw [HT.out, lastOk, if_pos HP.out, he, Bool.true_and])
         clear he
         go_wp2_with fail
         go_roundw
         case rel => exact ⟨k + 1, by omega, rfl, by go_num, HA2, m + m', rfl⟩
         case measure => simp [intOf]; omega
       | false =>
        have HP : Hid (¬ (k + 1 = l.length ∨ (opAt l (k + 1)).f0 = 24)) := Lib.hid (by rw [← HQ.out]; exact fun e => e.elim hlast (beq_eq_false_iff_ne.1 h24))
        have HA2 : Hid (orderB l = orderGo l (k + 1)) := Lib.hid (by rw [HT.out, lastOk, if_neg HP.out, Bool.true_and])
        go_wp2_with fail
        go_roundw
        case rel => exact ⟨k + 1, by omega, rfl, by go_num, HA2, m, rfl⟩
        case measure => simp [intOf]; omega
  ·obtain rfl : k = l.length := by omega
   have HG := HA.out
   rw [orderGo, if_neg (by omega)] at HG
   by_cases h0 : l.length = 0
   ·have HN : Hid (orderB l = true) := Lib.hid (by rw [HG, decide_eq_true h0]; rfl)
    clear HG
    have h0b : ((l.length : Int) == 0) = true := beq_iff_eq.2 (by omega)
    go_wp2_with fail
    go_ret
    exact ⟨by rw [HN.out]; rfl, m, rfl⟩
   ·obtain ⟨q, hq⟩ : ∃ q, q = opAt l 0 := ⟨_, rfl⟩
    have h0b : ((l.length : Int) == 0) = false := beq_eq_false_iff_ne.2 (by omega)
    have hpos : 0 < l.length := by omega
    obtain ⟨ad, had, hy0, hy1, hy2⟩ := op_cells H.out 0 (by omega) q hq m rfl
    have HN : Hid (orderB l = (q.f0 == 24)) := Lib.hid (by rw [HG, decide_eq_false h0, Bool.false_or, hq])
    clear HG hq hy1 hy2
    have hz0 : ad.add 0 = ad := by cases ad; simp [Addr.add]
    have hy : w.cell? ad = some (.int .i64 q.f0) := by simpa [hz0] using hy0
    clear hy0
    rw [had]
    go_wp2_with fail
    go_ret
    exact ⟨by rw [HN.out]; rfl, m, rfl⟩
end Go.Proofs.Ytkmcanknbdaliaa.Lx
