/- What the functions answer, in plain words: the plain laws. -/
import Derived.Test.YtkmcanknbdaliaaPAgainD1
import Derived.Test.YtkmcanknbdaliaaPAgainB
set_option linter.unusedVariables false
set_option linter.unusedSimpArgs false
namespace Go.Pv
set_option maxRecDepth 20000
set_option linter.unusedSimpArgs false
theorem valid_procs {c : D} (hv : Valid c) : 0 ≤ c.procs := by
  have h := hv.coded
  unfold codedB at h
  simp only [Bool.and_eq_true, decide_eq_true_eq] at h
  exact h.1.1.1.1.1.1.2
structure Pc (c : D) (i : Nat) : Prop where
  b0 : 0 ≤ pcn c.ops i
  pos : 0 < pcn c.ops (i + 1)
  le : pcn c.ops (i + 1) ≤ c.procs
  step : pcn c.ops (i + 1) = pcn c.ops i + (if (opAt c.ops i).f0 = 24 then 1 else 0)
  num : (opAt c.ops i).f0 = 24 → (opAt c.ops i).f1 = pcn c.ops i + 1
theorem pc1 {c : D} (hv : Valid c) {i : Nat} (hi : i < c.ops.length) : Pc c i := by
  have hsc := valid_scan hv
  have hfin : c.procs = pcn c.ops c.ops.length := scan_fin c.ops.length 0 0 (by omega) (by omega) (show scanL (c.ops.drop 0) (pcn c.ops 0) 0 = _ from hsc)
  have hmono := pcn_mono c.ops (i + 1) (c.ops.length - (i + 1))
  rw [show i + 1 + (c.ops.length - (i + 1)) = c.ops.length by omega] at hmono
  exact ⟨(pcn_bd c.ops i).1, pcn_pos (first_enter hv.st.ord (by omega)) (i + 1) (by omega), by omega, rfl, fun e => scan_enters c.ops.length 0 0 (by omega) (show scanL (c.ops.drop 0) (pcn c.ops 0) 0 = _ from hsc) i (by omega) hi e⟩
theorem depths_at {l : List Op} {DD : List D} {i : Nat} {d : Int} (hi : i < l.length) (hD : DD.length = l.length) (h : DD.drop i = depthsL (l.drop i) d) : rd DD i = .i (ahead (opAt l i) d) ∧ DD.drop (i + 1) = depthsL (l.drop (i + 1)) (afterI (opAt l i) d (kindAt (opAt l i).f0)) := by
  rw [drop_rd DD i (by omega), drop_rd l i hi, depthsL] at h
  exact List.cons.inj h
theorem proom_l (c : D) (hv : Valid c) (DD : List D) (hD : DD.length = c.ops.length) (P : Nat) (hP : c.procs = (P : Int)) (κ : List D → Option (List D × Int)) :
    ∀ (n i k : Nat) (d : Int) (out : List D), c.ops.length - i = n → i ≤ c.ops.length → n < k → out.length = P → DD.drop i = depthsL (c.ops.drop i) d → 0 ≤ d → d ≤ 4000 → stackGo c.ops (placR c).1 i d = true →
      Gocode_Room.l1018 k DD kindTab out (pcn c.ops i) c.ops (c.ops.length : Int) (i : Int) κ = κ (roomL (c.ops.drop i) (DD.drop i) (pcn c.ops i) out)
  | 0, i, k, d, out, hn, hi, hk, ho, hd, h0, h1, hs => by
    obtain ⟨k, rfl⟩ : ∃ m, k = m + 1 := ⟨k - 1, by omega⟩
    simp only [Gocode_Room.l1018]
    rw [decide_eq_false (by omega), List.drop_eq_nil_of_le (show c.ops.length ≤ i by omega), roomL]
    rfl
  | n + 1, i, k, d, out, hn, hi, hk, ho, hd, h0, h1, hs => by
    obtain ⟨k, rfl⟩ : ∃ m, k = m + 1 := ⟨k - 1, by omega⟩
    have hlt : i < c.ops.length := by omega
    have o1 := op1 hv hlt
    have hlim := hv.lim
    have pc := pc1 hv hlt
    obtain ⟨a1, a2, a3⟩ := stackGo_next hlt hs
    obtain ⟨hd1, hd2⟩ := depths_at hlt hD hd
    have hdi : (rd DD i).int = ahead (opAt c.ops i) d := by rw [hd1]; rfl
    have hA : afterI (opAt c.ops i) (ahead (opAt c.ops i) d) (kindAt (opAt c.ops i).f0) = afterI (opAt c.ops i) d (kindAt (opAt c.ops i).f0) := after_ahead _ _ _
    have hqs : Small (ahead (opAt c.ops i) d) := by unfold Small ahead; split <;> omega
    have ih := fun (out : List D) (ho : out.length = P) => proom_l c hv DD hD P hP κ n (i + 1) k _ out (by omega) (by omega) (by omega) ho hd2 (by omega) a2 a3
    have pc2 := pc.pos
    have pc3 := pc.le
    have w1 : ∀ p : Int, p = pcn c.ops (i + 1) → IntKind.i64.wrap (p - 1) = p - 1 := fun p hp => w64 _ (by omega)
    have gp : ∀ (p : Int) (out : List D), p = pcn c.ops (i + 1) → out.length = P → inB (p - 1) out.length = true ∧ Nat.blt (p - 1).toNat out.length = true := fun p out hp ho => ⟨inB_pos (by omega), blt_pos (by omega)⟩
    have gd1 : inB (i : Int) DD.length = true := inB_pos (by omega)
    have gd2 : Nat.blt i DD.length = true := blt_pos (by omega)
    have g2 : (inB ((rd c.ops i).cell 0).int 31 && inB ((rd c.ops i).cell 0).int kindTab.length) = true := by
      have b := o1.k0
      have e := o1.k1
      rw [kindTab_len, show inB ((rd c.ops i).cell 0).int 31 = true from inB_pos ⟨b, by exact e⟩]; rfl
    have g3 : Nat.blt ((rd c.ops i).cell 0).int.toNat kindTab.length = true := by
      have b := o1.k0
      have e := o1.k1
      rw [kindTab_len]
      exact blt_pos (by have : (opAt c.ops i).f0.toNat < 31 := by omega
                        exact this)
    have e3 : Gocode_after.f (rd c.ops i) (rd DD i).int (rd kindTab ((rd c.ops i).cell 0).int.toNat) = some (afterI (opAt c.ops i) d (kindAt (opAt c.ops i).f0)) := by
      rw [hdi, ← hA]
      exact after_f _ _ _ o1.s1 o1.s2 hqs o1.k2 o1.k3
    have key : ∀ (p : Int) (o2 : List D), p = pcn c.ops (i + 1) → o2.length = P → Gocode_Room.p130355 DD kindTab o2 p (i : Int) (rd c.ops i) c.ops (c.ops.length : Int) (i : Int) (fun y4 => Gocode_Room.l1018 k y4.1 y4.2.1 y4.2.2.1 y4.2.2.2.1 y4.2.2.2.2.1 y4.2.2.2.2.2.1 (IntKind.i64.wrap (y4.2.2.2.2.2.2 + 1)) κ)
        = κ (roomL (c.ops.drop (i + 1)) (DD.drop (i + 1)) p (room2 (opAt c.ops i) (ahead (opAt c.ops i) d) p o2)) := by
      intro p o2 hp ho2
      obtain ⟨q1, q2⟩ := gp p o2 hp ho2
      unfold Gocode_Room.p130355
      simp only [w1 p hp, toNat_nat, w_succ i (show (i : Int) + 1 ≤ 9223372036854775807 by omega)]
      rw [gd_pos q1, gd_pos q2, gd_pos gd1, gd_pos gd2, gd_pos g2, gd_pos g3, e3, Option.bind_some, gd_pos q1, gd_pos q2, hp, ih _ (by simp [ho2])]
      unfold room2 mx
      rw [hA]
    rw [drop_rd c.ops i hlt, drop_rd DD i (by omega), roomL, hdi]
    simp only [Gocode_Room.l1018, toNat_nat]
    rw [decide_eq_true (show (i : Int) < c.ops.length by omega), cond_true, gd_pos (inB_pos (by omega))]
    by_cases e : (opAt c.ops i).f0 = 24
    · have hp : (opAt c.ops i).f1 = pcn c.ops (i + 1) := by rw [pc.num e, pc.step, if_pos e]
      have k1 := key _ out hp ho
      have hrp : roomP (opAt c.ops i) (pcn c.ops i) = (opAt c.ops i).f1 := by unfold roomP; rw [if_pos e]
      have hr1 : ∀ p, room1 (opAt c.ops i) (ahead (opAt c.ops i) d) p out = out := fun p => by unfold room1; rw [if_pos e]
      rw [show (((rd c.ops i).cell 0).int == 24) = true from beq_iff_eq.2 e, cond_true, show roomP (rd c.ops i) (pcn c.ops i) = (opAt c.ops i).f1 from hrp, show room1 (rd c.ops i) (ahead (opAt c.ops i) d) (opAt c.ops i).f1 out = out from hr1 _]
      exact k1
    · have hp : pcn c.ops i = pcn c.ops (i + 1) := by rw [pc.step, if_neg e, Int.add_zero]
      obtain ⟨q1, q2⟩ := gp (pcn c.ops i) out hp ho
      have hrp : roomP (opAt c.ops i) (pcn c.ops i) = pcn c.ops i := by unfold roomP; rw [if_neg e]
      rw [show (((rd c.ops i).cell 0).int == 24) = false from beq_eq_false_iff_ne.2 e, cond_false, show roomP (rd c.ops i) (pcn c.ops i) = pcn c.ops i from hrp]
      simp only [w1 _ hp]
      rw [gd_pos q1, gd_pos q2, gd_pos gd1, gd_pos gd2, gd_pos q1, gd_pos q2, hdi]
      have k1 := key (pcn c.ops i) (room1 (opAt c.ops i) (ahead (opAt c.ops i) d) (pcn c.ops i) out) hp (by rw [room1_len, ho])
      have hr1 : room1 (opAt c.ops i) (ahead (opAt c.ops i) d) (pcn c.ops i) out = out.set (pcn c.ops i - 1).toNat (.i (mx (ri out (pcn c.ops i - 1)) (ahead (opAt c.ops i) d))) := by unfold room1; rw [if_neg e]
      rw [hr1] at k1
      unfold mx at k1
      rw [show room1 (rd c.ops i) (ahead (opAt c.ops i) d) (pcn c.ops i) out = _ from hr1]
      unfold mx
      exact k1
theorem room_f (c : D) (hf : Fine c) : Gocode_Room.f c = some (roomR c) := by
  unfold Gocode_Room.f
  rw [depths_f c hf, Option.bind_some]
  unfold depthsR roomR
  by_cases g : checkI c = 0
  · have hv := check_ok hf g
    have h0 := valid_procs hv
    have hlim := hv.lim
    obtain ⟨P, hP⟩ : ∃ P : Nat, c.procs = (P : Int) := ⟨c.procs.toNat, by omega⟩
    rw [if_pos g, if_pos g, bne0 rfl, cond_false, kinds_f, Option.bind_some, gd_pos (by rw [kindTab_len]; rfl)]
    have hP2 : (c.cell 4).int = (P : Int) := hP
    rw [hP2, hP, toNat_nat, gd_pos (by rw [decide_eq_true (by omega), decide_eq_true (by unfold lim; omega)]; rfl)]
    have q := proom_l c hv (depthsL c.ops 0) (depthsL_len _ _) P hP (fun y6 => some (y6, 0)) c.ops.length 0 NN 0 (List.replicate P (.i 0)) (by omega) (by omega) (by have := le_NN; omega) (by simp) rfl (by omega) (by omega) hv.stacked
    exact q
  · rw [if_neg g, if_neg g]
    simp only [bne_iff_ne.2 g, cond_true]
theorem rroom_l (c : D) (hv : Valid c) (DD : List D) (hD : DD.length = c.ops.length) (P : Nat) (hP : c.procs = (P : Int)) (κ : List D → Option (List D × Int)) :
    ∀ (n i k : Nat) (d : Int) (out : List D), c.ops.length - i = n → i ≤ c.ops.length → n < k → (out.length : Int) = pcn c.ops i → DD.drop i = depthsL (c.ops.drop i) d → 0 ≤ d → d ≤ 4000 → stackGo c.ops (placR c).1 i d = true →
      ∃ R, Gr06_Room.l250 k c DD out (i : Int) κ = κ R ∧ (R.length : Int) = pcn c.ops c.ops.length ∧ roomL (c.ops.drop i) (DD.drop i) (pcn c.ops i) (out ++ List.replicate (P - out.length) (.i 0)) = R ++ List.replicate (P - R.length) (.i 0)
  | 0, i, k, d, out, hn, hi, hk, ho, hd, h0, h1, hs => by
    obtain ⟨k, rfl⟩ : ∃ m, k = m + 1 := ⟨k - 1, by omega⟩
    obtain rfl : i = c.ops.length := by omega
    refine ⟨out, ?_, ho, ?_⟩
    · simp only [Gr06_Room.l250]
      rw [decide_eq_false (by simp only [D.ops]; omega)]
      rfl
    · rw [List.drop_length, roomL]
  | n + 1, i, k, d, out, hn, hi, hk, ho, hd, h0, h1, hs => by
    obtain ⟨k, rfl⟩ : ∃ m, k = m + 1 := ⟨k - 1, by omega⟩
    have hlt : i < c.ops.length := by omega
    have o1 := op1 hv hlt
    have hlim := hv.lim
    have pc := pc1 hv hlt
    obtain ⟨a1, a2, a3⟩ := stackGo_next hlt hs
    obtain ⟨hd1, hd2⟩ := depths_at hlt hD hd
    have hdi : (rd DD i).int = ahead (opAt c.ops i) d := by rw [hd1]; rfl
    have hA : afterI (opAt c.ops i) (ahead (opAt c.ops i) d) (kindAt (opAt c.ops i).f0) = afterI (opAt c.ops i) d (kindAt (opAt c.ops i).f0) := after_ahead _ _ _
    have hqs : Small (ahead (opAt c.ops i) d) := by unfold Small ahead; split <;> omega
    have ih := fun (out : List D) (ho : (out.length : Int) = pcn c.ops (i + 1)) => rroom_l c hv DD hD P hP κ n (i + 1) k _ out (by omega) (by omega) (by omega) ho hd2 (by omega) a2 a3
    have g0 : inB (i : Int) c.ops.length = true := inB_pos (by omega)
    have gd1 : inB (i : Int) DD.length = true := inB_pos (by omega)
    have gd2 : Nat.blt i DD.length = true := blt_pos (by omega)
    have e3 : Gr06_After.f (rd (c.cell 2).list i) (rd DD i).int = some (afterI (opAt c.ops i) d (kindAt (opAt c.ops i).f0)) := by
      rw [hdi, ← hA]
      exact after_ref o1.op _ o1.s1 o1.s2 hqs
    have key : ∀ o2 : List D, (o2.length : Int) = pcn c.ops (i + 1) → Gr06_Room.p8009 c DD o2 (i : Int) (fun y3 => Gr06_Room.l250 k y3.1 y3.2.1 y3.2.2.1 (IntKind.i64.wrap (y3.2.2.2 + 1)) κ)
        = Gr06_Room.l250 k c DD (o2.set (pcn c.ops (i + 1) - 1).toNat (.i (mx (mx (ri o2 (pcn c.ops (i + 1) - 1)) (ahead (opAt c.ops i) d)) (afterI (opAt c.ops i) d (kindAt (opAt c.ops i).f0))))) ((i + 1 : Nat) : Int) κ := by
      intro o2 ho2
      have pos := pc.pos
      have w1 : IntKind.i64.wrap ((o2.length : Int) - 1) = pcn c.ops (i + 1) - 1 := by rw [w64 _ (by have := pc.le; omega)]; omega
      have q1 : inB (pcn c.ops (i + 1) - 1) o2.length = true := inB_pos (by omega)
      have q2 : Nat.blt (pcn c.ops (i + 1) - 1).toNat o2.length = true := blt_pos (by omega)
      unfold Gr06_Room.p8009
      simp only [w1, toNat_nat, w_succ i (show (i : Int) + 1 ≤ 9223372036854775807 by omega)]
      rw [gd_pos q1, gd_pos q2, gd_pos gd1, gd_pos gd2, gd_pos g0, gd_pos gd1, gd_pos gd2, e3, Option.bind_some, gd_pos q1, gd_pos q2, hdi]
      rfl
    rw [drop_rd c.ops i hlt, drop_rd DD i (by omega), roomL, hdi]
    simp only [Gr06_Room.l250, toNat_nat]
    rw [decide_eq_true (show (i : Int) < (c.cell 2).list.length by simp only [D.ops] at hlt; omega), cond_true, gd_pos g0]
    by_cases e : (opAt c.ops i).f0 = 24
    · have hp : (opAt c.ops i).f1 = pcn c.ops (i + 1) := by rw [pc.num e, pc.step, if_pos e]
      have hpi : pcn c.ops (i + 1) = pcn c.ops i + 1 := by rw [pc.step, if_pos e]
      have hle := pc.le
      obtain ⟨m, hm⟩ : ∃ m, P - out.length = m + 1 := ⟨P - out.length - 1, by omega⟩
      have hah : ahead (opAt c.ops i) d = 0 := by unfold ahead; rw [if_pos e]
      have gl : Nat.ble (out.length + ([.i 0] : List D).length) lim = true := ble_pos (by simp only [List.length_singleton]; unfold lim; omega)
      have hix : (pcn c.ops (i + 1) - 1).toNat = out.length := by omega
      rw [show (((rd (c.cell 2).list i).cell 0).int == 24) = true from beq_iff_eq.2 e, cond_true, gd_pos gl, key _ (by simp; omega), hix, set_end, rd_end _ _ _ _ hix, hah]
      obtain ⟨R, q1, q2, q3⟩ := ih (out ++ [.i (mx (mx 0 0) (afterI (opAt c.ops i) d (kindAt (opAt c.ops i).f0)))]) (by simp; omega)
      refine ⟨R, q1, q2, ?_⟩
      rw [← q3]
      have hrp : roomP (rd c.ops i) (pcn c.ops i) = pcn c.ops (i + 1) := by
        unfold roomP
        rw [show D.f0 (rd c.ops i) = 24 from e, if_pos rfl]
        exact hp
      have hr1 : room1 (rd c.ops i) 0 (pcn c.ops (i + 1)) (out ++ List.replicate (P - out.length) (.i 0)) = out ++ (.i 0) :: List.replicate m (.i 0) := by
        unfold room1
        rw [show D.f0 (rd c.ops i) = 24 from e, if_pos rfl, hm]
        rfl
      have hA0 : afterI (rd c.ops i) 0 (kindAt (D.f0 (rd c.ops i))) = afterI (opAt c.ops i) d (kindAt (opAt c.ops i).f0) := by rw [← hA, hah]
      rw [hrp, hr1]
      unfold room2
      rw [hix, set_end, rd_end _ _ _ _ hix, hA0]
      have hm2 : P - (out ++ [D.i (mx (mx 0 0) (afterI (opAt c.ops i) d (kindAt (opAt c.ops i).f0)))]).length = m := by simp; omega
      rw [hm2, List.append_assoc]
      rfl
    · have hp : pcn c.ops i = pcn c.ops (i + 1) := by rw [pc.step, if_neg e, Int.add_zero]
      have hpos := pc.pos
      rw [show (((rd (c.cell 2).list i).cell 0).int == 24) = false from beq_eq_false_iff_ne.2 e, cond_false, key _ (by omega)]
      obtain ⟨R, q1, q2, q3⟩ := ih (out.set (pcn c.ops (i + 1) - 1).toNat (.i (mx (mx (ri out (pcn c.ops (i + 1) - 1)) (ahead (opAt c.ops i) d)) (afterI (opAt c.ops i) d (kindAt (opAt c.ops i).f0))))) (by rw [List.length_set]; omega)
      refine ⟨R, q1, q2, ?_⟩
      rw [← q3]
      have hrp : roomP (rd c.ops i) (pcn c.ops i) = pcn c.ops (i + 1) := by
        unfold roomP
        rw [if_neg (show ¬ D.f0 (rd c.ops i) = 24 from e), hp]
      rw [hrp]
      unfold room2 room1
      rw [if_neg (show ¬ D.f0 (rd c.ops i) = 24 from e), List.length_set]
      have hix : (pcn c.ops (i + 1) - 1).toNat < out.length := by omega
      have hAA : afterI (rd c.ops i) (ahead (opAt c.ops i) d) (kindAt (D.f0 (rd c.ops i))) = afterI (opAt c.ops i) d (kindAt (opAt c.ops i).f0) := hA
      rw [List.set_append_left _ _ hix, List.set_append_left _ _ (by rw [List.length_set]; exact hix), rd_left _ _ _ hix, rd_left _ _ _ (by rw [List.length_set]; exact hix), rd_put_same _ _ _ _ rfl hix, List.set_set, hAA]
theorem rroom_ref (c : D) (hf : Fine c) : Gr06_Room.f c = some (roomR c) := by
  unfold Gr06_Room.f
  rw [rdepths_ref c hf, Option.bind_some]
  unfold depthsR roomR
  by_cases g : checkI c = 0
  · have hv := check_ok hf g
    have h0 := valid_procs hv
    have hlim := hv.lim
    obtain ⟨P, hP⟩ : ∃ P : Nat, c.procs = (P : Int) := ⟨c.procs.toNat, by omega⟩
    rw [if_pos g, if_pos g, bne0 rfl, cond_false]
    obtain ⟨R, q1, q2, q3⟩ := rroom_l c hv (depthsL c.ops 0) (depthsL_len _ _) P hP (fun y5 => some (y5, 0)) c.ops.length 0 NN 0 [] (by omega) (by omega) (by have := le_NN; omega) rfl rfl (by omega) (by omega) hv.stacked
    have hfin : c.procs = pcn c.ops c.ops.length := scan_fin c.ops.length 0 0 (by omega) (by omega) (show scanL (c.ops.drop 0) (pcn c.ops 0) 0 = _ from valid_scan hv)
    have hz : P - R.length = 0 := by omega
    rw [hz, List.replicate_zero, List.append_nil] at q3
    rw [hP, Int.toNat_natCast]
    refine q1.trans ?_
    rw [← q3]
    rfl
  · rw [if_neg g, if_neg g]
    simp only [bne_iff_ne.2 g, cond_true]
/-! ### counts of labels -/
/-- One more jump to a label. -/
def jumpTo (xs : List D) (n : Int) : List D := if n > 0 then xs.set (n - 1).toNat (.i (ri xs (n - 1) + 1)) else xs
def jumpsL : List Op → List D → List D
  | [], xs => xs
  | o :: l, xs => jumpsL l (jumpTo xs (namedI o))
def jumpsR (c : D) : List D × Int := if checkI c = 0 then (jumpsL c.ops (List.replicate c.labels.toNat (.i 0)), 0) else ([], checkI c)
theorem jumpTo_len (xs : List D) (n : Int) : (jumpTo xs n).length = xs.length := by unfold jumpTo; split <;> simp
theorem jumpsL_len : ∀ (l : List Op) (xs : List D), (jumpsL l xs).length = xs.length
  | [], _ => rfl
  | o :: l, xs => by rw [jumpsL, jumpsL_len l, jumpTo_len]
theorem rd_out : ∀ (xs : List D) (j : Nat), xs.length ≤ j → rd xs j = .i 0
  | [], _, _ => rfl
  | x :: xs, 0, h => absurd h (by simp)
  | x :: xs, j + 1, h => rd_out xs j (by simpa using h)
theorem rd_all {xs : List D} {j : Int} {P : Int → Prop} (h : ∀ x ∈ xs, P x.int) (h0 : P 0) : P (ri xs j) := by
  unfold ri
  by_cases g : j.toNat < xs.length
  · exact h _ (rd_mem g)
  · rw [rd_out _ _ (by omega)]
    exact h0
theorem jumpTo_bd {xs : List D} {n B : Int} (h : ∀ x ∈ xs, 0 ≤ x.int ∧ x.int ≤ B) (hB : 0 ≤ B) : ∀ x ∈ jumpTo xs n, 0 ≤ x.int ∧ x.int ≤ B + 1 := by
  intro x hx
  unfold jumpTo at hx
  by_cases g : n > 0
  · rw [if_pos g] at hx
    rcases List.mem_or_eq_of_mem_set hx with h1 | h1
    · have := h x h1; omega
    · have := rd_all (xs := xs) (j := n - 1) (P := fun v => 0 ≤ v ∧ v ≤ B) h ⟨Int.le_refl 0, hB⟩
      rw [h1]
      simp only [D.int] at this ⊢
      omega
  · rw [if_neg g] at hx
    have := h x hx
    omega
theorem pjumps_l (l : List Op) (hl : l.length ≤ 1000000) (L : Nat) (hL : L ≤ 1000000) (hn : ∀ o ∈ l, namedI o ≤ (L : Int)) (κ : List D → Option (List D × Int)) : ∀ (n i k : Nat) (xs : List D), l.length - i = n → i ≤ l.length → n < k → xs.length = L → (∀ x ∈ xs, 0 ≤ x.int ∧ x.int ≤ (i : Int)) →
    Gocode_Jumps.l250 k xs l (l.length : Int) (i : Int) κ = κ (jumpsL (l.drop i) xs)
  | 0, i, k, xs, hd, hi, hk, hx, hb => by
    obtain ⟨k, rfl⟩ : ∃ m, k = m + 1 := ⟨k - 1, by omega⟩
    obtain rfl : i = l.length := by omega
    simp only [Gocode_Jumps.l250]
    rw [decide_eq_false (by omega), List.drop_length, jumpsL]
    rfl
  | n + 1, i, k, xs, hd, hi, hk, hx, hb => by
    obtain ⟨k, rfl⟩ : ∃ m, k = m + 1 := ⟨k - 1, by omega⟩
    have hlt : i < l.length := by omega
    have hm := hn (rd l i) (rd_mem hlt)
    rw [drop_rd l i hlt, jumpsL]
    simp only [Gocode_Jumps.l250, toNat_nat]
    rw [decide_eq_true (show (i : Int) < l.length by omega), cond_true, gd_pos (inB_pos (by omega)), named_f, Option.bind_some, w_succ i (by omega)]
    generalize namedI (rd l i) = m at *
    have hbd := jumpTo_bd (n := m) hb (by omega)
    have hbd' : ∀ x ∈ jumpTo xs m, 0 ≤ x.int ∧ x.int ≤ ((i + 1 : Nat) : Int) := fun x h => by have := hbd x h; omega
    have hr : 0 ≤ ri xs (m - 1) ∧ ri xs (m - 1) ≤ (i : Int) := rd_all (xs := xs) (j := m - 1) (P := fun v => 0 ≤ v ∧ v ≤ (i : Int)) hb ⟨Int.le_refl 0, by omega⟩
    by_cases g : m > 0
    · have q1 : inB (m - 1) xs.length = true := inB_pos (by omega)
      have q2 : Nat.blt (m - 1).toNat xs.length = true := blt_pos (by omega)
      have w2 : IntKind.i64.wrap ((rd xs (m - 1).toNat).int + 1) = ri xs (m - 1) + 1 := w64 _ (by
        have h1 : 0 ≤ (rd xs (m - 1).toNat).int := hr.1
        have h2 : (rd xs (m - 1).toNat).int ≤ (i : Int) := hr.2
        omega)
      rw [decide_eq_true g, cond_true, w64 (m - 1) (by omega), gd_pos q1, gd_pos q2, gd_pos q1, gd_pos q2, w2]
      have ej : xs.set (m - 1).toNat (.i (ri xs (m - 1) + 1)) = jumpTo xs m := by unfold jumpTo; rw [if_pos g]
      rw [ej]
      exact pjumps_l l hl L hL hn κ n (i + 1) k _ (by omega) (by omega) (by omega) (by rw [jumpTo_len, hx]) hbd'
    · rw [decide_eq_false g, cond_false]
      have ej : jumpTo xs m = xs := by unfold jumpTo; rw [if_neg g]
      rw [ej] at hbd' ⊢
      exact pjumps_l l hl L hL hn κ n (i + 1) k xs (by omega) (by omega) (by omega) hx hbd'
theorem named_all {c : D} (h : Valid c) : ∀ o ∈ c.ops, namedI o ≤ c.labels := fun o ho => named_ok h.st.l (List.all_eq_true.1 h.st.ops o ho)
theorem jumps_f (c : D) (h : Fine c) : Gocode_Jumps.f c = some (jumpsR c) := by
  unfold Gocode_Jumps.f jumpsR
  rw [check_f c h, Option.bind_some]
  by_cases g : checkI c = 0
  · have hv := check_ok h g
    have h0 := hv.st.l
    have hlim := hv.lim
    have hg : (decide (0 ≤ (c.cell 5).int) && decide ((c.cell 5).int ≤ (lim : Int))) = true := by
      rw [decide_eq_true (show 0 ≤ (c.cell 5).int from h0), decide_eq_true (show (c.cell 5).int ≤ (lim : Int) from by simp only [D.labels] at hlim; unfold lim; omega)]; rfl
    rw [bne0 g, cond_false, if_pos g, gd_pos hg]
    have q := pjumps_l c.ops h.o c.labels.toNat (by omega) (fun o ho => by have := named_all hv o ho; omega) (fun y3 => some (y3, 0)) c.ops.length 0 NN (List.replicate c.labels.toNat (.i 0)) (by omega) (by omega) (by have := le_NN; omega) (by simp) (fun x hx => by have := List.eq_of_mem_replicate hx; rw [this]; simp only [D.int]; omega)
    exact q
  · rw [bne_iff_ne.2 g, cond_true, if_neg g]
theorem rjumps_l (c : D) (hl : c.ops.length ≤ 1000000) (L : Nat) (hL : L ≤ 1000000) (hn : ∀ o ∈ c.ops, namedI o ≤ (L : Int)) (κ : List D → Option (List D × Int)) : ∀ (n i k : Nat) (xs : List D), c.ops.length - i = n → i ≤ c.ops.length → n < k → xs.length = L → (∀ x ∈ xs, 0 ≤ x.int ∧ x.int ≤ (i : Int)) →
    Gr06_Jumps.l250 k c xs (i : Int) κ = κ (jumpsL (c.ops.drop i) xs)
  | 0, i, k, xs, hd, hi, hk, hx, hb => by
    obtain ⟨k, rfl⟩ : ∃ m, k = m + 1 := ⟨k - 1, by omega⟩
    obtain rfl : i = c.ops.length := by omega
    simp only [Gr06_Jumps.l250]
    rw [decide_eq_false (by simp only [D.ops]; omega), List.drop_length, jumpsL]
    rfl
  | n + 1, i, k, xs, hd, hi, hk, hx, hb => by
    obtain ⟨k, rfl⟩ : ∃ m, k = m + 1 := ⟨k - 1, by omega⟩
    have hlt : i < c.ops.length := by omega
    have hm := hn (rd c.ops i) (rd_mem hlt)
    have g0 : inB (i : Int) c.ops.length = true := inB_pos (by omega)
    rw [drop_rd c.ops i hlt, jumpsL]
    simp only [Gr06_Jumps.l250, toNat_nat]
    rw [decide_eq_true (show (i : Int) < (c.cell 2).list.length by simp only [D.ops] at hlt; omega), cond_true, gd_pos g0, label_f, Option.bind_some, w_succ i (by omega)]
    simp only [D.ops] at hm ⊢
    generalize namedI (rd (c.cell 2).list i) = m at *
    have hbd := jumpTo_bd (n := m) hb (by omega)
    have hbd' : ∀ x ∈ jumpTo xs m, 0 ≤ x.int ∧ x.int ≤ ((i + 1 : Nat) : Int) := fun x h => by have := hbd x h; omega
    have hr : 0 ≤ ri xs (m - 1) ∧ ri xs (m - 1) ≤ (i : Int) := rd_all (xs := xs) (j := m - 1) (P := fun v => 0 ≤ v ∧ v ≤ (i : Int)) hb ⟨Int.le_refl 0, by omega⟩
    by_cases g : m > 0
    · have q1 : inB (m - 1) xs.length = true := inB_pos (by omega)
      have q2 : Nat.blt (m - 1).toNat xs.length = true := blt_pos (by omega)
      have w2 : IntKind.i64.wrap ((rd xs (m - 1).toNat).int + 1) = ri xs (m - 1) + 1 := w64 _ (by
        have h1 : 0 ≤ (rd xs (m - 1).toNat).int := hr.1
        have h2 : (rd xs (m - 1).toNat).int ≤ (i : Int) := hr.2
        omega)
      rw [decide_eq_true g, cond_true, w64 (m - 1) (by omega), gd_pos q1, gd_pos q2, gd_pos q1, gd_pos q2, w2]
      have ej : xs.set (m - 1).toNat (.i (ri xs (m - 1) + 1)) = jumpTo xs m := by unfold jumpTo; rw [if_pos g]
      rw [ej]
      exact rjumps_l c hl L hL hn κ n (i + 1) k _ (by omega) (by omega) (by omega) (by rw [jumpTo_len, hx]) hbd'
    · rw [decide_eq_false g, cond_false]
      have ej : jumpTo xs m = xs := by unfold jumpTo; rw [if_neg g]
      rw [ej] at hbd' ⊢
      exact rjumps_l c hl L hL hn κ n (i + 1) k xs (by omega) (by omega) (by omega) hx hbd'
theorem rjumps_ref (c : D) (h : Fine c) : Gr06_Jumps.f c = some (jumpsR c) := by
  unfold Gr06_Jumps.f jumpsR
  rw [check_ref c h, Option.bind_some]
  by_cases g : checkI c = 0
  · have hv := check_ok h g
    have h0 := hv.st.l
    have hlim := hv.lim
    have hg : (decide (0 ≤ (c.cell 5).int) && decide ((c.cell 5).int ≤ (lim : Int))) = true := by
      rw [decide_eq_true (show 0 ≤ (c.cell 5).int from h0), decide_eq_true (show (c.cell 5).int ≤ (lim : Int) from by simp only [D.labels] at hlim; unfold lim; omega)]; rfl
    rw [bne0 g, cond_false, if_pos g, gd_pos hg]
    have q := rjumps_l c h.o c.labels.toNat (by omega) (fun o ho => by have := named_all hv o ho; omega) (fun y3 => some (y3, 0)) c.ops.length 0 NN (List.replicate c.labels.toNat (.i 0)) (by omega) (by omega) (by have := le_NN; omega) (by simp) (fun x hx => by have := List.eq_of_mem_replicate hx; rw [this]; simp only [D.int]; omega)
    exact q
  · rw [bne_iff_ne.2 g, cond_true, if_neg g]
/-! ### whole numbers that are the same -/
theorem eqints_l (l : List D) (hl : l.length ≤ 1000000) (κ : Unit → Option Bool) : ∀ (n i k : Nat), l.length - i = n → i ≤ l.length → n < k → Gr00_EqInts.l58 k l l (i : Int) κ = κ ()
  | 0, i, k, hn, hi, hk => by
    obtain ⟨k, rfl⟩ : ∃ m, k = m + 1 := ⟨k - 1, by omega⟩
    simp only [Gr00_EqInts.l58]
    rw [decide_eq_false (by omega)]
    rfl
  | n + 1, i, k, hn, hi, hk => by
    obtain ⟨k, rfl⟩ : ∃ m, k = m + 1 := ⟨k - 1, by omega⟩
    have g0 : inB (i : Int) l.length = true := inB_pos (by omega)
    simp only [Gr00_EqInts.l58, toNat_nat]
    rw [decide_eq_true (show (i : Int) < l.length by omega), cond_true, gd_pos g0, gd_pos g0, bne_self_eq_false, cond_false, w_succ i (by omega)]
    exact eqints_l l hl κ n (i + 1) k (by omega) (by omega) (by omega)
theorem eqints_self (l : List D) (hl : l.length ≤ 1000000) : Gr00_EqInts.f l l = some true := by
  unfold Gr00_EqInts.f
  rw [bne_self_eq_false, cond_false]
  exact eqints_l l hl _ l.length 0 NN (by omega) (by omega) (by have := le_NN; omega)
end Go.Pv

namespace Go.Pv
open Go.Proofs
set_option maxRecDepth 20000
theorem sl_pos {n m : Nat} (k : Nat) (hk : 0 < k) (h : n * k ≤ m) : n ≤ m := Nat.le_trans (Nat.le_mul_of_pos_right n hk) h
/-- Code that came in is no larger than memory. -/
theorem wide_of {c : D} (h : Wf Try.prog 5 26 c.cell) : Wide c := by
  obtain ⟨s, s1, s2⟩ := wf_str (wf_struct h Try.underlying26 (i := 0) rfl) Try.underlying9
  obtain ⟨xs, x1, x2, x3⟩ := wf_slice (wf_struct h Try.underlying26 (i := 1) rfl) Try.underlying22
  obtain ⟨ys, y1, y2, y3⟩ := wf_slice (wf_struct h Try.underlying26 (i := 2) rfl) Try.underlying23
  obtain ⟨zs, z1, z2, z3⟩ := wf_slice (wf_struct h Try.underlying26 (i := 3) rfl) Try.underlying24
  have b1 : Try.prog.bytesOf 47 = 48 := by kernel_rfl
  have b2 : Try.prog.bytesOf 35 = 24 := by kernel_rfl
  have b3 : Try.prog.bytesOf 68 = 16 := by kernel_rfl
  have b4 : Try.prog.bytesOf 3 = 8 := by kernel_rfl
  have hA : isA Try.prog 47 = true := by kernel_rfl
  rw [b1] at x2
  rw [b2] at y2
  rw [b3] at z2
  have s1 : c.cell 0 = .s s := s1
  have x1 : c.cell 1 = .l xs := x1
  have y1 : c.cell 2 = .l ys := y1
  have z1 : c.cell 3 = .l zs := z1
  refine ⟨?_, ?_, ?_, ?_, ?_⟩
  · simp only [D.s0, s1, D.str]; exact s2
  · simp only [D.ops, y1, D.list]; exact sl_pos 24 (by decide) y2
  · simp only [D.gl, z1, D.list]; exact sl_pos 16 (by decide) z2
  · simp only [D.data, x1, D.list]; exact sl_pos 48 (by decide) x2
  · simp only [D.data, x1, D.list]
    intro d hd
    obtain ⟨-, hw⟩ := x3 d hd
    rw [hA] at hw
    obtain ⟨t, t1, t2⟩ := wf_str (wf_struct hw Try.underlying47 (i := 0) rfl) Try.underlying9
    obtain ⟨us, u1, u2, -⟩ := wf_slice (wf_struct hw Try.underlying47 (i := 2) rfl) Try.underlying29
    rw [b4] at u2
    have t1 : d.cell 0 = .s t := t1
    have u1 : d.cell 2 = .l us := u1
    refine ⟨?_, ?_⟩
    · simp only [D.s0, t1, D.str]; exact t2
    · simp only [D.l2, u1, D.list]; exact sl_pos 8 (by decide) u2
def awakeC : D := .r [.s ByteArray.empty, .l [], .l ([.r [.i 24, .i 1, .i 0], .r [.i 1, .i 65, .i 0], .r [.i 25, .i 0, .i 0]] : List D), .l [], .i 1, .i 0]
theorem awake_fine : Fine awakeC := ⟨by decide, by decide, by decide, by decide, fun d hd => by cases hd⟩
theorem awake_depths : depthsR awakeC = ([.i 0, .i 2, .i 3], 0) := by kernel_rfl
theorem awake_f : Gw06_awake.f = some true := by
  unfold Gw06_awake.f
  have h := depths_f awakeC awake_fine
  rw [awake_depths] at h
  rw [show Gocode_Depths.f (.r [.s ByteArray.empty, .l [], .l ([.r [.i 24, .i 1, .i 0], .r [.i 1, .i 65, .i 0], .r [.i 25, .i 0, .i 0]] : List D), .l [], .i 1, .i 0]) = _ from h, Option.bind_some]
  have e := eqints_self ([.i 0, .i 2, .i 3] : List D) (by decide)
  rw [show ((([.i 0, .i 2, .i 3], 0) : List D × Int).2 == 0) = true from rfl, cond_true]
  rw [show Gr00_EqInts.f ((([.i 0, .i 2, .i 3], 0) : List D × Int).1) ([.i 0, .i 2, .i 3] : List D) = some true from e]
  rfl
theorem roomL_len : ∀ (l : List Op) (ds : List D) (p : Int) (out : List D), (roomL l ds p out).length = out.length
  | [], ds, _, _ => by cases ds <;> rfl
  | o :: l, [], _, _ => rfl
  | o :: l, d :: ds, p, out => by rw [roomL, roomL_len l, room2_len, room1_len]
theorem depthsR_len {c : D} (hf : Fine c) : (depthsR c).1.length ≤ 1000000 := by
  unfold depthsR
  split
  · rw [depthsL_len]; exact hf.o
  · exact Nat.zero_le _
theorem roomR_len {c : D} (hf : Fine c) : (roomR c).1.length ≤ 1000000 := by
  unfold roomR
  split
  · rename_i g
    have hlim := (check_ok hf g).lim
    rw [roomL_len, List.length_replicate]
    omega
  · exact Nat.zero_le _
theorem jumpsR_len {c : D} (hf : Fine c) : (jumpsR c).1.length ≤ 1000000 := by
  unfold jumpsR
  split
  · rename_i g
    have hlim := (check_ok hf g).lim
    rw [jumpsL_len, List.length_replicate]
    omega
  · exact Nat.zero_le _
theorem depths_pure (c : D) (hw : Wide c) : Gw06_OcodeDepths.f c = some true := by
  obtain ⟨b, hb, hf⟩ := heavy_f c hw
  unfold Gw06_OcodeDepths.f
  rw [hb, Option.bind_some]
  cases b with
  | true => rw [cond_true, awake_f]; rfl
  | false =>
    obtain ⟨hf, -⟩ := hf rfl
    rw [cond_false, depths_f c hf, Option.bind_some, rdepths_ref c hf, Option.bind_some, room_f c hf, Option.bind_some, rroom_ref c hf, Option.bind_some, jumps_f c hf, Option.bind_some, rjumps_ref c hf, Option.bind_some, eqints_self _ (depthsR_len hf), Option.bind_some, eqints_self _ (roomR_len hf)]
    simp only [beq_self_eq_true, Bool.and_self, Bool.true_and, cond_true, Option.bind_some, eqints_self _ (jumpsR_len hf), awake_f]
end Go.Pv

namespace Go.Pv
open Go.Proofs
set_option maxRecDepth 20000
set_option linter.unusedSimpArgs false
abbrev CodeT := ByteArray × List D × List D × List D × Int × Int × Unit
def toD (x : CodeT) : D := .r [.s x.1, .l x.2.1, .l x.2.2.1, .l x.2.2.2.1, .i x.2.2.2.2.1, .i x.2.2.2.2.2.1]
/-! ### a list that is changed from its start on -/
def upTo (f : D → D) (l : List D) (i : Nat) : List D := (l.take i).map f ++ l.drop i
theorem upTo_len (f : D → D) (l : List D) (i : Nat) : (upTo f l i).length = l.length := by
  simp only [upTo, List.length_append, List.length_map, List.length_take, List.length_drop]; omega
theorem upTo_zero (f : D → D) (l : List D) : upTo f l 0 = l := rfl
theorem upTo_end (f : D → D) (l : List D) : upTo f l l.length = l.map f := by simp [upTo]
theorem upTo_rd (f : D → D) (l : List D) {i : Nat} (hi : i < l.length) : rd (upTo f l i) i = rd l i := by
  unfold upTo
  rw [drop_rd l i hi]
  have h := ri_end ((l.take i).map f) (rd l i) (l.drop (i + 1))
  rw [show ((l.take i).map f).length = i by simp; omega] at h
  exact h
theorem take_succ' (f : D → D) (l : List D) {i : Nat} (hi : i < l.length) : (l.take (i + 1)).map f = (l.take i).map f ++ [f (rd l i)] := by
  have h := rd_get hi
  rw [List.take_add_one, h]; simp
theorem upTo_set (f : D → D) (l : List D) {i : Nat} (hi : i < l.length) {x : D} (hx : x = f (rd l i)) : (upTo f l i).set i x = upTo f l (i + 1) := by
  unfold upTo
  rw [drop_rd l i hi]
  have h := set_end ((l.take i).map f) (rd l i) x (l.drop (i + 1))
  rw [show ((l.take i).map f).length = i by simp; omega] at h
  rw [h, take_succ' f l hi, hx]; simp
theorem upTo_same (f : D → D) (l : List D) {i : Nat} (hi : i < l.length) (hx : f (rd l i) = rd l i) : upTo f l i = upTo f l (i + 1) := by
  unfold upTo
  rw [take_succ' f l hi, hx, drop_rd l i hi]; simp
/-! ### labels as they come: newest first; the number of each -/
def labR : List Op → List Int → List Int
  | [], r => r
  | o :: l, r => labR l (if o.f0 = 19 then o.f1 :: r else r)
def nuR : List Int → Int → Int
  | [], _ => 0
  | y :: r, x => if x = y then (r.length : Int) + 1 else nuR r x
def mapR : List Int → List (D × D)
  | [] => []
  | y :: r => (.i y, .i ((r.length : Int) + 1)) :: mapR r
theorem labR_len : ∀ (l : List Op) (r : List Int), (labR l r).length ≤ l.length + r.length
  | [], r => by simp [labR]
  | o :: l, r => by
    have := labR_len l (if o.f0 = 19 then o.f1 :: r else r)
    rw [labR]
    by_cases h : o.f0 = 19
    · rw [if_pos h] at this ⊢; simp only [List.length_cons] at this ⊢; omega
    · rw [if_neg h] at this ⊢; simp only [List.length_cons] at this ⊢; omega
theorem mapR_len : ∀ r : List Int, (mapR r).length = r.length
  | [] => rfl
  | _ :: r => by simp only [mapR, List.length_cons, mapR_len r]
theorem mhas_mapR (x : Int) : ∀ r : List Int, mhas (.int .i64) (.i x) (mapR r) = true ↔ x ∈ r
  | [] => by simp [mapR, mhas]
  | y :: r => by
    simp only [mapR, mhas, Bool.or_eq_true, mhas_mapR x r, List.mem_cons, dEq, D.int, beq_iff_eq]
theorem mlen_mapR : ∀ {r : List Int}, r.Nodup → mlen (.int .i64) (mapR r) = r.length
  | [], _ => rfl
  | y :: r, h => by
    rw [List.nodup_cons] at h
    have e : mhas (.int .i64) (.i y) (mapR r) = false := by
      rw [← Bool.not_eq_true, mhas_mapR]; exact h.1
    simp only [mapR, mlen, e, cond_false, mlen_mapR h.2, List.length_cons]
theorem mget_mapR (x : Int) : ∀ r : List Int, (mget (.int .i64) (.i x) (.i 0) (mapR r)).int = nuR r x
  | [] => rfl
  | y :: r => by
    simp only [mapR, mget, dEq, D.int, nuR]
    by_cases h : x = y
    · rw [if_pos h, beq_iff_eq.2 h]; rfl
    · rw [if_neg h, beq_eq_false_iff_ne.2 h]; exact mget_mapR x r
/-! ### labels are told apart -/
theorem rd_setI (xs : List D) (i j : Nat) (x : D) : rd (xs.set i x) j = if i = j ∧ i < xs.length then x else rd xs j := by
  induction xs generalizing i j with
  | nil => simp [rd]
  | cons a xs ih =>
    cases i with
    | zero => cases j <;> simp [rd]
    | succ i =>
      cases j with
      | zero => simp [rd]
      | succ j =>
        have := ih i j
        simp only [List.set_cons_succ, rd, List.length_cons] at this ⊢
        rw [this]
        by_cases h : i = j ∧ i < xs.length
        · rw [if_pos h, if_pos (by omega)]
        · rw [if_neg h, if_neg (by omega)]
theorem placL_labs : ∀ (l : List Op) (i : Nat) (p q : Int) (xs ys : List D) (r : List Int) (z : List D × List D × Int × Int), placL l i p q xs ys = some z → (∀ o ∈ l, o.f0 = 19 → 0 ≤ o.f1 ∧ o.f1 < ys.length) → r.Nodup → (∀ x ∈ r, 0 ≤ x ∧ x < ys.length ∧ (rd ys x.toNat).int ≠ 0) → (labR l r).Nodup
  | [], i, p, q, xs, ys, r, z, h, hl, hd, hr => hd
  | o :: l, i, p, q, xs, ys, r, z, h, hl, hd, hr => by
    have hl' : ∀ o ∈ l, o.f0 = 19 → 0 ≤ o.f1 ∧ o.f1 < ys.length := fun o ho => hl o (List.mem_cons_of_mem _ ho)
    rw [placL] at h
    rw [labR]
    by_cases h1 : o.f0 = 24
    · rw [if_pos h1] at h
      rw [if_neg (by omega)]
      by_cases h2 : o.f1 = p + 1
      · rw [if_pos h2] at h
        exact placL_labs l _ _ _ _ _ _ _ h hl' hd hr
      · rw [if_neg h2] at h; exact absurd h (by simp)
    · rw [if_neg h1] at h
      by_cases h2 : o.f0 = 19
      · rw [if_pos h2] at h ⊢
        by_cases h3 : (rd ys o.f1.toNat).int ≠ 0 ∨ p = 0
        · rw [if_pos h3] at h; exact absurd h (by simp)
        · rw [if_neg h3] at h
          obtain ⟨a1, a2⟩ := hl o (List.mem_cons_self ..) h2
          have hz : (rd ys o.f1.toNat).int = 0 := Classical.not_not.1 fun g => h3 (.inl g)
          have hp : p ≠ 0 := fun g => h3 (.inr g)
          refine placL_labs l _ _ _ _ _ _ _ h (by simpa using hl') (List.nodup_cons.2 ⟨fun hm => (hr _ hm).2.2 hz, hd⟩) fun x hx => ?_
          rw [List.length_set, rd_setI]
          rcases List.mem_cons.1 hx with hx | hx
          · subst hx; refine ⟨a1, a2, ?_⟩
            rw [if_pos ⟨rfl, by omega⟩]; exact hp
          · obtain ⟨b1, b2, b3⟩ := hr x hx
            refine ⟨b1, b2, ?_⟩
            by_cases e : o.f1.toNat = x.toNat ∧ o.f1.toNat < ys.length
            · rw [if_pos e]; exact hp
            · rw [if_neg e]; exact b3
      · rw [if_neg h2] at h ⊢
        exact placL_labs l _ _ _ _ _ _ _ h hl' hd hr
theorem labs_ok {c : D} (hv : Valid c) : (labR c.ops []).Nodup := by
  have st := hv.st
  have hp := st.pl
  unfold placR at hp
  cases hr : placL c.ops 0 0 0 (zeros c.labels.toNat) (zeros c.labels.toNat) with
  | none => rw [hr] at hp; exact absurd hp (by simp [placFin])
  | some z =>
    refine placL_labs _ _ _ _ _ _ _ _ hr (fun o ho h => ?_) List.nodup_nil fun x hx => by cases hx
    have := labels_ok st.ops o ho h
    have h0 := st.l
    simp only [zeros, List.length_replicate]
    omega
/-- An instruction with its label numbered anew. -/
def relab (r : List Int) (o : Op) : Op :=
  if o.f0 = 30 then .r [o.cell 0, o.cell 1, .i (nuR r o.f2)] else if o.f0 = 19 ∨ namedI o > 0 then .r [o.cell 0, .i (nuR r o.f1), o.cell 2] else o
/-! ### the program's -/
theorem inK_i64 (n : Int) (h : -9223372036854775808 ≤ n ∧ n ≤ 9223372036854775807) : inK .i64 n = true := by
  simp [inK, Lit.wf, IntKind.min, IntKind.max, IntKind.signed, IntKind.bits]
  omega
theorem lim_pos {n : Nat} (h : n ≤ 1099511627776) : Nat.ble n lim = true := Nat.ble_eq_true_of_le h
theorem cloneI_f (l : List D) (h : l.length ≤ 1000000) : Gslices_Clone___int_int.f l = some l := by
  cases l with
  | nil => rfl
  | cons x xs => simp only [Gslices_Clone___int_int.f, List.nil_append]; rw [gd_pos (lim_pos (by simp at h ⊢; omega))]
theorem cloneO_f (l : List D) (h : l.length ≤ 1000000) : Gslices_Clone___bluebell_api_Op_bluebell_api_Op.f l = some l := by
  cases l with
  | nil => rfl
  | cons x xs => simp only [Gslices_Clone___bluebell_api_Op_bluebell_api_Op.f, List.nil_append]; rw [gd_pos (lim_pos (by simp at h ⊢; omega))]
theorem cloneE_f (l : List D) (h : l.length ≤ 1000000) : Gslices_Clone___bluebell_api_Entry_bluebell_api_Entry.f l = some l := by
  cases l with
  | nil => rfl
  | cons x xs => simp only [Gslices_Clone___bluebell_api_Entry_bluebell_api_Entry.f, List.nil_append]; rw [gd_pos (lim_pos (by simp at h ⊢; omega))]
theorem cloneD_f (l : List D) (h : l.length ≤ 1000000) : Gslices_Clone___bluebell_api_Data_bluebell_api_Data.f l = some l := by
  cases l with
  | nil => rfl
  | cons x xs => simp only [Gslices_Clone___bluebell_api_Data_bluebell_api_Data.f, List.nil_append]; rw [gd_pos (lim_pos (by simp at h ⊢; omega))]
def cpD (d : D) : D := .r [d.cell 0, d.cell 1, .l d.l2]
theorem clone_l (l : List D) (hl : l.length ≤ 1000000) (hw : ∀ d ∈ l, d.l2.length ≤ 1000000) (s : ByteArray) (o g : List D) (p q : Int) (v2 : D) (κ : CodeT × D → Option CodeT) : ∀ (n i k : Nat), l.length - i = n → i ≤ l.length → n < k →
    Gocode_Clone.l58 k (s, upTo cpD l i, o, g, p, q, ()) v2 (l.length : Int) (i : Int) κ = κ ((s, l.map cpD, o, g, p, q, ()), v2)
  | 0, i, k, hn, hi, hk => by
    obtain ⟨k, rfl⟩ : ∃ m, k = m + 1 := ⟨k - 1, by omega⟩
    obtain rfl : i = l.length := by omega
    simp only [Gocode_Clone.l58]
    rw [decide_eq_false (by omega), cond_false, upTo_end]
  | n + 1, i, k, hn, hi, hk => by
    obtain ⟨k, rfl⟩ : ∃ m, k = m + 1 := ⟨k - 1, by omega⟩
    have hlt : i < l.length := by omega
    have hm := hw _ (rd_mem hlt)
    have ih := clone_l l hl hw s o g p q v2 κ n (i + 1) k (by omega) (by omega) (by omega)
    have g0 : inB (i : Int) l.length = true := inB_pos (by omega)
    have g1 : Nat.blt i l.length = true := blt_pos hlt
    have e : Gslices_Clone___int_int.f ((rd l i).cell 2).list = some (rd l i).l2 := cloneI_f _ hm
    simp only [Gocode_Clone.l58, toNat_nat, upTo_len, upTo_rd _ l hlt]
    rw [decide_eq_true (show (i : Int) < l.length by omega), cond_true, gd_pos g0, gd_pos g1, e, Option.bind_some, gd_pos g0, gd_pos g1, w_succ i (by omega), upTo_set cpD l hlt (show D.r [(rd l i).cell 0, (rd l i).cell 1, .l (rd l i).l2] = cpD (rd l i) from rfl), ih]
def cpC (c : D) : CodeT := (c.s0, c.data.map cpD, c.ops, c.gl, c.procs, c.labels, ())
theorem clone_f (c : D) (h : Fine c) : Gocode_Clone.f c = some (cpC c) := by
  unfold Gocode_Clone.f
  have e1 : Gslices_Clone___bluebell_api_Op_bluebell_api_Op.f (c.cell 2).list = some c.ops := cloneO_f _ h.o
  have e2 : Gslices_Clone___bluebell_api_Entry_bluebell_api_Entry.f (c.cell 3).list = some c.gl := cloneE_f _ h.g
  have e3 : Gslices_Clone___bluebell_api_Data_bluebell_api_Data.f (c.cell 1).list = some c.data := cloneD_f _ h.d
  rw [e1, Option.bind_some, e2, Option.bind_some, e3, Option.bind_some]
  have q := clone_l c.data h.d (fun d hd => (h.w d hd).2) c.s0 c.ops c.gl c.procs c.labels (.r [.s ByteArray.empty, .l [], .l [], .l [], .i 0, .i 0]) (fun y5 => some (y5.1.1, y5.1.2.1, y5.1.2.2.1, y5.1.2.2.2.1, y5.1.2.2.2.2.1, y5.1.2.2.2.2.2.1, ())) c.data.length 0 NN (by omega) (by omega) (by have := le_NN; have := h.d; omega)
  rw [upTo_zero, show ((0 : Nat) : Int) = 0 from rfl] at q
  exact q
theorem labmap_l (s : ByteArray) (d o g : List D) (p q : Int) (v2 : D) (ho : o.length ≤ 1000000) (hw : ∀ x ∈ o, x.f0 = 19 → Small x.f1) (hd : (labR o []).Nodup) (κ : CodeT × D × List (D × D) → Option CodeT) : ∀ (n i k : Nat) (r : List Int), o.length - i = n → i ≤ o.length → n < k → labR (o.drop i) r = labR o [] → r.length ≤ i → r.Nodup →
    Gocode_Labelled.l122 k (s, d, o, g, p, q, ()) v2 (mapR r) () (o.length : Int) (i : Int) κ = κ ((s, d, o, g, p, q, ()), v2, mapR (labR o []))
  | 0, i, k, r, hn, hi, hk, hr, hrl, hrd => by
    obtain ⟨k, rfl⟩ : ∃ m, k = m + 1 := ⟨k - 1, by omega⟩
    obtain rfl : i = o.length := by omega
    rw [List.drop_length, labR] at hr
    simp only [Gocode_Labelled.l122]
    rw [decide_eq_false (by omega), cond_false, hr]
  | n + 1, i, k, r, hn, hi, hk, hr, hrl, hrd => by
    obtain ⟨k, rfl⟩ : ∃ m, k = m + 1 := ⟨k - 1, by omega⟩
    have hlt : i < o.length := by omega
    have hm := hw _ (rd_mem hlt)
    have ih := fun r => labmap_l s d o g p q v2 ho hw hd κ n (i + 1) k r (by omega) (by omega) (by omega)
    have g0 : inB (i : Int) o.length = true := inB_pos (by omega)
    have g1 : Nat.blt i o.length = true := blt_pos hlt
    rw [drop_rd o i hlt, labR] at hr
    simp only [Gocode_Labelled.l122, toNat_nat]
    rw [decide_eq_true (show (i : Int) < o.length by omega), cond_true, gd_pos g0, gd_pos g1, w_succ i (by omega)]
    by_cases e : (rd o i).f0 = 19
    · rw [if_pos e] at hr
      have e' : ((rd o i).cell 0).int = 19 := e
      have hs := hm e
      unfold Small at hs
      have hs' : -1000000000000 ≤ ((rd o i).cell 1).int ∧ ((rd o i).cell 1).int ≤ 1000000000000 := hs
      rw [beq_iff_eq.2 e', cond_true, mlen_mapR hrd, w64 _ (by omega), inK_i64 _ (by omega), inK_i64 _ (by omega), mapR_len]
      have g2 : (true && (true && Nat.blt r.length lim)) = true := by
        rw [Bool.true_and, Bool.true_and]; exact blt_pos (by unfold lim; omega)
      rw [gd_pos g2]
      refine ih ((rd o i).f1 :: r) hr (by simp only [List.length_cons]; omega) ?_
      have : ∀ (l : List Op) (r : List Int), (labR l r).Nodup → r.Nodup := fun l => by
        induction l with
        | nil => exact fun r h => h
        | cons x l ihl =>
          intro r h
          rw [labR] at h
          have := ihl _ h
          by_cases hx : x.f0 = 19
          · rw [if_pos hx] at this; exact (List.nodup_cons.1 this).2
          · rw [if_neg hx] at this; exact this
      exact this _ _ (by rw [hr]; exact hd)
    · rw [if_neg e] at hr
      have e' : ¬ ((rd o i).cell 0).int = 19 := e
      rw [beq_eq_false_iff_ne.2 e', cond_false]
      exact ih r hr (by omega) hrd
theorem labels_l (s : ByteArray) (d o g : List D) (p q : Int) (v2 : D) (r : List Int) (ho : o.length ≤ 1000000) (hw : ∀ x ∈ o, Small x.f1 ∧ Small x.f2) (κ : CodeT × D × List (D × D) → Option CodeT) : ∀ (n i k : Nat), o.length - i = n → i ≤ o.length → n < k →
    Gocode_Labelled.l250 k (s, d, upTo (relab r) o i, g, p, q, ()) v2 (mapR r) (o.length : Int) (i : Int) κ = κ ((s, d, o.map (relab r), g, p, q, ()), v2, mapR r)
  | 0, i, k, hn, hi, hk => by
    obtain ⟨k, rfl⟩ : ∃ m, k = m + 1 := ⟨k - 1, by omega⟩
    obtain rfl : i = o.length := by omega
    simp only [Gocode_Labelled.l250]
    rw [decide_eq_false (by omega), cond_false, upTo_end]
  | n + 1, i, k, hn, hi, hk => by
    obtain ⟨k, rfl⟩ : ∃ m, k = m + 1 := ⟨k - 1, by omega⟩
    have hlt : i < o.length := by omega
    obtain ⟨m1, m2⟩ := hw _ (rd_mem hlt)
    have ih := labels_l s d o g p q v2 r ho hw κ n (i + 1) k (by omega) (by omega) (by omega)
    have g0 : inB (i : Int) o.length = true := inB_pos (by omega)
    have g1 : Nat.blt i o.length = true := blt_pos hlt
    unfold Small at m1 m2
    have k1 : inK .i64 ((rd o i).cell 1).int = true := inK_i64 _ (by simp only [D.f1] at m1; omega)
    have k2 : inK .i64 ((rd o i).cell 2).int = true := inK_i64 _ (by simp only [D.f2] at m2; omega)
    simp only [Gocode_Labelled.l250, toNat_nat, upTo_len, upTo_rd _ o hlt]
    rw [decide_eq_true (show (i : Int) < o.length by omega), cond_true, gd_pos g0, gd_pos g1, w_succ i (by omega), k1, k2, named_f, mget_mapR, mget_mapR]
    by_cases e : (rd o i).f0 = 30
    · have e' : ((rd o i).cell 0).int = 30 := e
      rw [beq_iff_eq.2 e', cond_true, gd_pos g1, gd_pos rfl, gd_pos g1, upTo_set (relab r) o hlt (by unfold relab; rw [if_pos e]), ih]
    · have e' : ¬ ((rd o i).cell 0).int = 30 := e
      rw [beq_eq_false_iff_ne.2 e', cond_false, gd_pos g1, gd_pos (by rw [g1]; simp)]
      by_cases e2 : (rd o i).f0 = 19
      · have e2' : ((rd o i).cell 0).int = 19 := e2
        rw [beq_iff_eq.2 e2']
        simp only [Bool.not_true, cond_false, Option.bind_some, Bool.true_or, cond_true]
        rw [gd_pos g1, gd_pos rfl, gd_pos g1, upTo_set (relab r) o hlt (by unfold relab; rw [if_neg e, if_pos (.inl e2)]), ih]
      · have e2' : ¬ ((rd o i).cell 0).int = 19 := e2
        rw [beq_eq_false_iff_ne.2 e2']
        simp only [Bool.not_false, cond_true, Option.bind_some, Bool.false_or]
        by_cases e3 : namedI (rd o i) > 0
        · rw [decide_eq_true e3, cond_true, gd_pos g1, gd_pos rfl, gd_pos g1, upTo_set (relab r) o hlt (by unfold relab; rw [if_neg e, if_pos (.inr e3)]), ih]
        · rw [decide_eq_false e3, cond_false, upTo_same (relab r) o hlt (by unfold relab; rw [if_neg e, if_neg (by intro h; rcases h with h | h; exact e2 h; exact e3 h)]), ih]
/-- Code with its labels numbered anew, as the program tells it. -/
def renC (c : D) : CodeT := (c.s0, c.data.map cpD, c.ops.map (relab (labR c.ops [])), c.gl, c.procs, ((labR c.ops []).length : Int), ())
theorem small_ops {c : D} (hv : Valid c) : ∀ x ∈ c.ops, Small x.f1 ∧ Small x.f2 := fun x hx => by
  obtain ⟨i, hi, rfl⟩ : ∃ i, i < c.ops.length ∧ rd c.ops i = x := by
    obtain ⟨i, hi, h⟩ := List.mem_iff_getElem.1 hx
    exact ⟨i, hi, by have := rd_get hi; rw [List.getElem?_eq_getElem hi, h] at this; exact (Option.some.inj this).symm⟩
  have := op1 hv hi
  exact ⟨this.s1, this.s2⟩
theorem labelled_f (c : D) (hv : Valid c) : Gocode_Labelled.f c = some (renC c) := by
  have h := hv.fine
  unfold Gocode_Labelled.f
  rw [clone_f c h, Option.bind_some]
  have q1 := fun κ => labmap_l c.s0 (c.data.map cpD) c.ops c.gl c.procs c.labels (.r [.s ByteArray.empty, .l [], .l [], .l [], .i 0, .i 0]) h.o (fun x hx _ => (small_ops hv x hx).1) (labs_ok hv) κ c.ops.length 0 NN [] (by omega) (by omega) (by have := le_NN; have := h.o; omega) rfl (by simp) List.nodup_nil
  rw [show ((0 : Nat) : Int) = 0 from rfl, show mapR [] = [] from rfl] at q1
  refine (q1 _).trans ?_
  have q2 := fun κ => labels_l c.s0 (c.data.map cpD) c.ops c.gl c.procs c.labels (.r [.s ByteArray.empty, .l [], .l [], .l [], .i 0, .i 0]) (labR c.ops []) h.o (small_ops hv) κ c.ops.length 0 NN (by omega) (by omega) (by have := le_NN; have := h.o; omega)
  rw [show ((0 : Nat) : Int) = 0 from rfl, upTo_zero] at q2
  refine (q2 _).trans ?_
  show some (c.s0, c.data.map cpD, c.ops.map (relab (labR c.ops [])), c.gl, c.procs, ((mlen (K.int .i64) (mapR (labR c.ops [])) : Nat) : Int), ()) = _
  rw [mlen_mapR (labs_ok hv)]; rfl
def noC : CodeT := (ByteArray.empty, [], [], [], 0, 0, ())
def renR (c : D) : CodeT × Int := if checkI c = 0 then (renC c, 0) else (noC, checkI c)
theorem renumber_f (c : D) (hf : Fine c) : Gocode_Renumber.f c = some (renR c) := by
  unfold Gocode_Renumber.f renR
  rw [check_f c hf, Option.bind_some]
  by_cases g : checkI c = 0
  · rw [bne0 g, cond_false, if_pos g, labelled_f c (check_ok hf g)]; rfl
  · rw [bne_iff_ne.2 g, cond_true, if_neg g]; rfl
end Go.Pv

namespace Go.Pv
open Go.Proofs
set_option maxRecDepth 20000
set_option linter.unusedSimpArgs false
/-! ### the reference's -/
def TabOk (xs : List D) (L : Nat) (r : List Int) : Prop := xs.length = L + 1 ∧ ∀ y : Int, 0 ≤ y → y ≤ L → (rd xs y.toNat).int = nuR r y
theorem rnum_l (c v2 : D) (hl : c.ops.length ≤ 1000000) (L : Nat) (hL : L ≤ 1000000) (hops : ∀ o ∈ c.ops, o.f0 = 19 → 0 ≤ o.f1 ∧ o.f1 ≤ L) (κ : D × D × List D × Int → Option (CodeT × Int)) : ∀ (n i k : Nat) (r : List Int) (xs : List D), c.ops.length - i = n → i ≤ c.ops.length → n < k → r.length ≤ i → TabOk xs L r →
    ∃ ys, Gr06_Renumber.l506 k c v2 xs (r.length : Int) (i : Int) κ = κ (c, v2, ys, ((labR (c.ops.drop i) r).length : Int)) ∧ TabOk ys L (labR (c.ops.drop i) r)
  | 0, i, k, r, xs, hn, hi, hk, hr, hx => by
    obtain ⟨k, rfl⟩ : ∃ m, k = m + 1 := ⟨k - 1, by omega⟩
    obtain rfl : i = c.ops.length := by omega
    have e : ((c.cell 2).list.length : Int) = (c.ops.length : Int) := rfl
    simp only [Gr06_Renumber.l506]
    rw [e, decide_eq_false (by omega), cond_false, List.drop_length]
    exact ⟨xs, rfl, hx⟩
  | n + 1, i, k, r, xs, hn, hi, hk, hr, hx => by
    obtain ⟨k, rfl⟩ : ∃ m, k = m + 1 := ⟨k - 1, by omega⟩
    have hlt : i < c.ops.length := by omega
    have hm := hops _ (rd_mem hlt)
    have ih := fun r xs => rnum_l c v2 hl L hL hops κ n (i + 1) k r xs (by omega) (by omega) (by omega)
    have g0 : inB (i : Int) (c.cell 2).list.length = true := inB_pos (by have : (c.cell 2).list.length = c.ops.length := rfl; omega)
    rw [drop_rd c.ops i hlt, labR]
    simp only [Gr06_Renumber.l506, toNat_nat]
    rw [decide_eq_true (show (i : Int) < ((c.cell 2).list.length : Int) by have : (c.cell 2).list.length = c.ops.length := rfl; omega), cond_true, gd_pos g0, w_succ i (by omega)]
    by_cases e : (rd c.ops i).f0 = 19
    · obtain ⟨a1, a2⟩ := hm e
      have hm' : 0 ≤ ((rd (c.cell 2).list i).cell 1).int ∧ ((rd (c.cell 2).list i).cell 1).int ≤ (L : Int) := hm e
      have e' : ((rd (c.cell 2).list i).cell 0).int = 19 := e
      obtain ⟨x1, x2⟩ := hx
      rw [if_pos e, beq_iff_eq.2 e', cond_true, gd_pos g0, gd_pos (inB_pos (by omega)), gd_pos (blt_pos (by omega)), w_succ r.length (by omega)]
      refine ih ((rd c.ops i).f1 :: r) _ (by simp only [List.length_cons]; omega) ⟨by simpa using x1, fun y y0 y1 => ?_⟩
      rw [rd_setI]
      simp only [nuR]
      by_cases h : y = (rd c.ops i).f1
      · rw [if_pos ⟨by rw [h], by omega⟩, if_pos h]; simp only [D.int]; omega
      · rw [if_neg (by
          have : ((rd (c.cell 2).list i).cell 1).int = (rd c.ops i).f1 := rfl
          intro hh; apply h; omega), if_neg h]; exact x2 y y0 y1
    · have e' : ¬ ((rd (c.cell 2).list i).cell 0).int = 19 := e
      rw [if_neg e, beq_eq_false_iff_ne.2 e', cond_false]
      exact ih r xs (by omega) hx
def cpR (d : D) : D := .r [.s d.s0, .b d.b1, .l d.l2]
theorem copyI_f (l : List D) (h : l.length ≤ 1000000) : Gr00_CopyInts.f l = some l := by
  simp only [Gr00_CopyInts.f, List.nil_append]; rw [gd_pos (lim_pos (by simp; omega))]
theorem copy_l (c v2 : D) (h : Fine c) (κ : D × D × List D → Option CodeT) : ∀ (n i k : Nat), c.data.length - i = n → i ≤ c.data.length → n < k →
    Gr00_CopyCode.l58 k c v2 ((c.data.take i).map cpR) (i : Int) κ = κ (c, v2, c.data.map cpR)
  | 0, i, k, hn, hi, hk => by
    obtain ⟨k, rfl⟩ : ∃ m, k = m + 1 := ⟨k - 1, by omega⟩
    obtain rfl : i = c.data.length := by omega
    have e : ((c.cell 1).list.length : Int) = (c.data.length : Int) := rfl
    simp only [Gr00_CopyCode.l58]
    rw [e, decide_eq_false (by omega), cond_false, List.take_length]
  | n + 1, i, k, hn, hi, hk => by
    obtain ⟨k, rfl⟩ : ∃ m, k = m + 1 := ⟨k - 1, by omega⟩
    have hlt : i < c.data.length := by omega
    have hd := h.d
    have hm := (h.w _ (rd_mem hlt)).2
    have e0 : (c.cell 1).list.length = c.data.length := rfl
    have ih := copy_l c v2 h κ n (i + 1) k (by omega) (by omega) (by omega)
    have g0 : inB (i : Int) (c.cell 1).list.length = true := inB_pos (by omega)
    have e : Gr00_CopyInts.f ((rd (c.cell 1).list i).cell 2).list = some (rd c.data i).l2 := copyI_f _ hm
    simp only [Gr00_CopyCode.l58, toNat_nat]
    rw [decide_eq_true (show (i : Int) < ((c.cell 1).list.length : Int) by omega), cond_true, gd_pos g0, e, Option.bind_some, gd_pos (lim_pos (by simp; omega)), w_succ i (by omega)]
    rw [take_succ' cpR c.data hlt] at ih
    exact ih
def cpC' (c : D) : CodeT := (c.s0, c.data.map cpR, c.ops, c.gl, c.procs, c.labels, ())
theorem copy_f (c : D) (h : Fine c) : Gr00_CopyCode.f c = some (cpC' c) := by
  unfold Gr00_CopyCode.f
  have q := fun κ => copy_l c (.r [.s ByteArray.empty, .l [], .l [], .l [], .i 0, .i 0]) h κ c.data.length 0 NN (by omega) (by omega) (by have := le_NN; have := h.d; omega)
  rw [show ((0 : Nat) : Int) = 0 from rfl, show (c.data.take 0).map cpR = [] from rfl] at q
  refine (q _).trans ?_
  have e1 : (c.cell 2).list.length ≤ 1000000 := h.o
  have e2 : (c.cell 3).list.length ≤ 1000000 := h.g
  simp only [List.nil_append]
  rw [gd_pos (lim_pos (by simp; omega)), gd_pos (lim_pos (by simp; omega))]
  rfl
theorem named_30 {o : Op} (h : o.f0 = 30) : namedI o = o.f2 := by unfold namedI; rw [if_neg (by omega), if_pos h]
theorem named_6 {o : Op} (h : namedI o > 0) (h2 : o.f0 ≠ 30) : o.f0 = 20 ∨ o.f0 = 21 ∨ o.f0 = 22 ∨ o.f0 = 27 ∨ o.f0 = 29 := by
  unfold namedI at h
  by_cases h1 : o.f0 = 20 ∨ o.f0 = 21 ∨ o.f0 = 22 ∨ o.f0 = 27 ∨ o.f0 = 29
  · exact h1
  · rw [if_neg h1, if_neg h2] at h; omega
/-- Labels that instructions name lie within the code's. -/
structure LabOk (L : Nat) (o : Op) : Prop where
  c30 : o.f0 = 30 → 0 ≤ o.f2 ∧ o.f2 ≤ L
  c19 : o.f0 = 19 → 0 ≤ o.f1 ∧ o.f1 ≤ L
  nam : o.f0 ≠ 30 → namedI o > 0 → 0 ≤ o.f1 ∧ o.f1 ≤ L
theorem labOk {c : D} (hv : Valid c) {o : Op} (ho : o ∈ c.ops) {L : Nat} (hL : c.labels = L) : LabOk L o := by
  have h := List.all_eq_true.1 hv.st.ops o ho
  refine ⟨fun h2 => ?_, fun h2 => ?_, fun h2 h3 => ?_⟩
  · have h3 := (and2 (opOk_num h)).2
    rw [if_neg (by rw [h2]; decide), if_neg (by rw [h2]; decide), if_pos h2] at h3
    have := inIv_iff.1 h3
    omega
  · have := opOk_lab h (kind6 _ (.inl h2)); omega
  · have := opOk_lab h (kind6 _ (.inr (named_6 h3 h2))); omega
theorem rlabels_l (s : ByteArray) (d o g : List D) (p q : Int) (v2 : D) (xs : List D) (L : Nat) (r : List Int) (hx : TabOk xs L r) (ho : o.length ≤ 1000000) (hw : ∀ x ∈ o, LabOk L x) (κ : D × CodeT → Option (CodeT × Int)) : ∀ (n i k : Nat), o.length - i = n → i ≤ o.length → n < k →
    Gr06_Renumber.l4090 k v2 xs (s, d, upTo (relab r) o i, g, p, q, ()) (i : Int) κ = κ (v2, (s, d, o.map (relab r), g, p, q, ()))
  | 0, i, k, hn, hi, hk => by
    obtain ⟨k, rfl⟩ : ∃ m, k = m + 1 := ⟨k - 1, by omega⟩
    obtain rfl : i = o.length := by omega
    simp only [Gr06_Renumber.l4090, upTo_len]
    rw [decide_eq_false (by omega), cond_false, upTo_end]
  | n + 1, i, k, hn, hi, hk => by
    obtain ⟨k, rfl⟩ : ∃ m, k = m + 1 := ⟨k - 1, by omega⟩
    have hlt : i < o.length := by omega
    have hm := hw _ (rd_mem hlt)
    obtain ⟨x1, x2⟩ := hx
    have ih := rlabels_l s d o g p q v2 xs L r ⟨x1, x2⟩ ho hw κ n (i + 1) k (by omega) (by omega) (by omega)
    have g0 : inB (i : Int) o.length = true := inB_pos (by omega)
    have g1 : Nat.blt i o.length = true := blt_pos hlt
    simp only [Gr06_Renumber.l4090, toNat_nat, upTo_len, upTo_rd _ o hlt]
    rw [decide_eq_true (show (i : Int) < (o.length : Int) by omega), cond_true, gd_pos g0, gd_pos g1, label_f, Option.bind_some, gd_pos g0, gd_pos g1, w_succ i (by omega), g0, g1]
    by_cases e : (rd o i).f0 = 30
    · have e' : ((rd o i).cell 0).int = 30 := e
      have hz := hm.c30 e
      have hn := named_30 e
      have hy := x2 _ hz.1 hz.2
      rw [beq_iff_eq.2 e', cond_true, hn, gd_pos (inB_pos (by omega)), gd_pos (blt_pos (by omega)), gd_pos rfl, gd_pos rfl, upTo_set (relab r) o hlt (show D.r [(rd o i).cell 0, (rd o i).cell 1, .i (rd xs (rd o i).f2.toNat).int] = relab r (rd o i) by unfold relab; rw [if_pos e, hy]), ih]
    · have e' : ¬ ((rd o i).cell 0).int = 30 := e
      rw [beq_eq_false_iff_ne.2 e', cond_false, gd_pos (by simp), gd_pos (by simp)]
      have key : ((rd o i).f0 = 19 ∨ namedI (rd o i) > 0) → ((decide (namedI (rd o i) > 0)) || ((((rd o i).cell 0).int) == 19)) = true := fun h => by
        simp only [Bool.or_eq_true, decide_eq_true_eq, beq_iff_eq]; exact h.symm
      by_cases e2 : (rd o i).f0 = 19 ∨ namedI (rd o i) > 0
      · have hz : 0 ≤ (rd o i).f1 ∧ (rd o i).f1 ≤ L := by
          rcases e2 with h | h
          · exact hm.c19 h
          · exact hm.nam e h
        have hz' : 0 ≤ ((rd o i).cell 1).int ∧ ((rd o i).cell 1).int ≤ (L : Int) := hz
        have hy := x2 _ hz.1 hz.2
        rw [key e2, cond_true, gd_pos rfl, gd_pos rfl, gd_pos (inB_pos (by omega)), gd_pos (blt_pos (by omega)), gd_pos rfl, gd_pos rfl, upTo_set (relab r) o hlt (show D.r [(rd o i).cell 0, .i (rd xs ((rd o i).cell 1).int.toNat).int, (rd o i).cell 2] = relab r (rd o i) by unfold relab; rw [if_neg e, if_pos e2, ← hy]), ih]
      · have e3 : ((decide (namedI (rd o i) > 0)) || ((((rd o i).cell 0).int) == 19)) = false := by
          rw [← Bool.not_eq_true]
          simp only [Bool.or_eq_true, decide_eq_true_eq, beq_iff_eq]
          exact fun h => e2 h.symm
        rw [e3, cond_false, upTo_same (relab r) o hlt (by unfold relab; rw [if_neg e, if_neg e2]), ih]
def renC' (c : D) : CodeT := (c.s0, c.data.map cpR, c.ops.map (relab (labR c.ops [])), c.gl, c.procs, ((labR c.ops []).length : Int), ())
def renR' (c : D) : CodeT × Int := if checkI c = 0 then (renC' c, 0) else (noC, checkI c)
theorem tab_zero (L : Nat) : TabOk (zeros L) L [] := by
  refine ⟨by simp [zeros], fun y h0 h1 => ?_⟩
  have : y.toNat < (zeros L).length := by simp [zeros]; omega
  have h : rd (zeros L) y.toNat = .i 0 := List.eq_of_mem_replicate (rd_mem this)
  rw [h]; rfl
theorem rrenumber_ref (c : D) (hf : Fine c) : Gr06_Renumber.f c = some (renR' c) := by
  unfold Gr06_Renumber.f renR'
  rw [check_ref c hf, Option.bind_some]
  by_cases g : checkI c = 0
  · have hv := check_ok hf g
    have st := hv.st
    obtain ⟨L, hL⟩ : ∃ L : Nat, c.labels = L := ⟨c.labels.toNat, by have := st.l; omega⟩
    have hL' : (c.cell 5).int = L := hL
    have hL1 := st.l1
    rw [bne0 g, cond_false, if_pos g, hL', w_succ L (by omega)]
    have g1 : (decide (0 ≤ ((L + 1 : Nat) : Int)) && decide (((L + 1 : Nat) : Int) ≤ (lim : Int))) = true := by
      rw [decide_eq_true (by omega), decide_eq_true (by simp only [lim]; omega)]; rfl
    rw [gd_pos g1, toNat_nat]
    have q1 := fun κ => rnum_l c (.r [.s ByteArray.empty, .l [], .l [], .l [], .i 0, .i 0]) hf.o L (by omega) (fun o ho h => by have := labels_ok st.ops o ho h; omega) κ c.ops.length 0 NN [] (zeros L) (by omega) (by omega) (by have := le_NN; have := hf.o; omega) (by simp) (tab_zero L)
    rw [show ((0 : Nat) : Int) = 0 from rfl, List.drop_zero, show ((([] : List Int).length : Nat) : Int) = 0 from rfl] at q1
    obtain ⟨ys, hq, hy⟩ := q1 (fun y2 => (Gr00_CopyCode.f y2.1).bind fun r3 => Gr06_Renumber.l4090 NN y2.2.1 y2.2.2.1 (r3.1, r3.2.1, r3.2.2.1, r3.2.2.2.1, r3.2.2.2.2.1, y2.2.2.2, ()) 0 (fun y5 => some ((y5.2.1, y5.2.2.1, y5.2.2.2.1, y5.2.2.2.2.1, y5.2.2.2.2.2.1, y5.2.2.2.2.2.2.1, ()), 0)))
    refine Eq.trans hq ?_
    rw [copy_f c hf, Option.bind_some]
    have q2 := fun κ => rlabels_l c.s0 (c.data.map cpR) c.ops c.gl c.procs ((labR c.ops []).length : Int) (.r [.s ByteArray.empty, .l [], .l [], .l [], .i 0, .i 0]) ys L (labR c.ops []) hy hf.o (fun x hx => labOk hv hx hL) κ c.ops.length 0 NN (by omega) (by omega) (by have := le_NN; have := hf.o; omega)
    rw [show ((0 : Nat) : Int) = 0 from rfl, upTo_zero] at q2
    exact (q2 _).trans rfl
  · rw [bne_iff_ne.2 g, cond_true, if_neg g]; rfl
/-! ### code that is the same -/
structure Eqv (a b : D) : Prop where
  s : a.s0 = b.s0
  o : a.ops = b.ops
  g : a.gl = b.gl
  p : a.procs = b.procs
  l : a.labels = b.labels
  n : a.data.length = b.data.length
  d : ∀ i, i < a.data.length → (rd a.data i).s0 = (rd b.data i).s0 ∧ (rd a.data i).b1 = (rd b.data i).b1 ∧ (rd a.data i).l2 = (rd b.data i).l2
theorem eqops_l (l : List D) (hl : l.length ≤ 1000000) (κ : Unit → Option Bool) : ∀ (n i k : Nat), l.length - i = n → i ≤ l.length → n < k → Gr00_EqOps.l58 k l l (i : Int) κ = κ ()
  | 0, i, k, hn, hi, hk => by
    obtain ⟨k, rfl⟩ : ∃ m, k = m + 1 := ⟨k - 1, by omega⟩
    simp only [Gr00_EqOps.l58]
    rw [decide_eq_false (by omega)]
    rfl
  | n + 1, i, k, hn, hi, hk => by
    obtain ⟨k, rfl⟩ : ∃ m, k = m + 1 := ⟨k - 1, by omega⟩
    have g0 : inB (i : Int) l.length = true := inB_pos (by omega)
    simp only [Gr00_EqOps.l58, toNat_nat]
    rw [decide_eq_true (show (i : Int) < l.length by omega), cond_true, gd_pos g0, gd_pos g0]
    simp only [beq_self_eq_true, Bool.and_self, Bool.not_true, cond_false, w_succ i (show (i : Int) + 1 ≤ 9223372036854775807 by omega)]
    exact eqops_l l hl κ n (i + 1) k (by omega) (by omega) (by omega)
theorem eqops_self (l : List D) (hl : l.length ≤ 1000000) : Gr00_EqOps.f l l = some true := by
  unfold Gr00_EqOps.f
  rw [bne_self_eq_false, cond_false]
  exact eqops_l l hl _ l.length 0 NN (by omega) (by omega) (by have := le_NN; omega)
theorem eqdata_l (a b : D) (h : Eqv a b) (hf : Fine a) (κ : D × D → Option Bool) : ∀ (n i k : Nat), a.data.length - i = n → i ≤ a.data.length → n < k → Gr00_EqCode.l58 k a b (i : Int) κ = κ (a, b)
  | 0, i, k, hn, hi, hk => by
    obtain ⟨k, rfl⟩ : ∃ m, k = m + 1 := ⟨k - 1, by omega⟩
    have e0 : (a.cell 1).list.length = a.data.length := rfl
    simp only [Gr00_EqCode.l58]
    rw [decide_eq_false (by omega), cond_false]
  | n + 1, i, k, hn, hi, hk => by
    obtain ⟨k, rfl⟩ : ∃ m, k = m + 1 := ⟨k - 1, by omega⟩
    have hlt : i < a.data.length := by omega
    have hd := hf.d
    have hm := (hf.w _ (rd_mem hlt)).2
    have e0 : (a.cell 1).list.length = a.data.length := rfl
    have e1 : (b.cell 1).list.length = a.data.length := h.n.symm
    have g0 : inB (i : Int) (a.cell 1).list.length = true := inB_pos (by omega)
    have g1 : inB (i : Int) (b.cell 1).list.length = true := inB_pos (by omega)
    obtain ⟨h1, h2, h3⟩ := h.d i hlt
    have h1 : ((rd (a.cell 1).list i).cell 0).str = ((rd (b.cell 1).list i).cell 0).str := h1
    have h2 : ((rd (a.cell 1).list i).cell 1).bool = ((rd (b.cell 1).list i).cell 1).bool := h2
    have h3 : ((rd (a.cell 1).list i).cell 2).list = ((rd (b.cell 1).list i).cell 2).list := h3
    have hm : ((rd (a.cell 1).list i).cell 2).list.length ≤ 1000000 := hm
    have ih := eqdata_l a b h hf κ n (i + 1) k (by omega) (by omega) (by omega)
    simp only [Gr00_EqCode.l58, toNat_nat]
    rw [decide_eq_true (show (i : Int) < ((a.cell 1).list.length : Int) by omega), cond_true, gd_pos g0, gd_pos g1, g0, g1, h1, h2, h3]
    rw [h3] at hm
    simp only [beq_self_eq_true, Bool.or_true, Bool.not_true, Bool.or_self, Bool.not_false, cond_true, eqints_self _ hm, Option.bind_some, cond_false, gd, w_succ i (show (i : Int) + 1 ≤ 9223372036854775807 by omega)]
    exact ih
theorem eqgl_l (a b : D) (h : Eqv a b) (hf : Fine a) (κ : D × D → Option Bool) : ∀ (n i k : Nat), a.gl.length - i = n → i ≤ a.gl.length → n < k → Gr00_EqCode.l122 k a b (i : Int) κ = κ (a, b)
  | 0, i, k, hn, hi, hk => by
    obtain ⟨k, rfl⟩ : ∃ m, k = m + 1 := ⟨k - 1, by omega⟩
    have e0 : (a.cell 3).list.length = a.gl.length := rfl
    simp only [Gr00_EqCode.l122]
    rw [decide_eq_false (by omega), cond_false]
  | n + 1, i, k, hn, hi, hk => by
    obtain ⟨k, rfl⟩ : ∃ m, k = m + 1 := ⟨k - 1, by omega⟩
    have hlt : i < a.gl.length := by omega
    have hd := hf.g
    have e0 : (a.cell 3).list.length = a.gl.length := rfl
    have e1 : (b.cell 3).list = (a.cell 3).list := h.g.symm
    have g0 : inB (i : Int) (a.cell 3).list.length = true := inB_pos (by omega)
    have ih := eqgl_l a b h hf κ n (i + 1) k (by omega) (by omega) (by omega)
    simp only [Gr00_EqCode.l122, toNat_nat, e1]
    rw [decide_eq_true (show (i : Int) < ((a.cell 3).list.length : Int) by omega), cond_true, gd_pos g0, gd_pos g0]
    simp only [beq_self_eq_true, Bool.and_self, Bool.not_true, cond_false, w_succ i (show (i : Int) + 1 ≤ 9223372036854775807 by omega)]
    exact ih
theorem eqcode_f (a b : D) (h : Eqv a b) (hf : Fine a) : Gr00_EqCode.f a b = some true := by
  unfold Gr00_EqCode.f
  have s1 : (a.cell 0).str = (b.cell 0).str := h.s
  have s2 : (a.cell 4).int = (b.cell 4).int := h.p
  have s3 : (a.cell 5).int = (b.cell 5).int := h.l
  have s4 : (a.cell 1).list.length = (b.cell 1).list.length := h.n
  have s5 : (a.cell 3).list = (b.cell 3).list := h.g
  have s6 : (b.cell 2).list = (a.cell 2).list := h.o.symm
  have q1 := fun κ => eqdata_l a b h hf κ a.data.length 0 NN (by omega) (by omega) (by have := le_NN; have := hf.d; omega)
  have q2 := fun κ => eqgl_l a b h hf κ a.gl.length 0 NN (by omega) (by omega) (by have := le_NN; have := hf.g; omega)
  rw [show ((0 : Nat) : Int) = 0 from rfl] at q1 q2
  have q3 : Gr00_EqOps.f (a.cell 2).list (b.cell 2).list = some true := by rw [s6]; exact eqops_self _ hf.o
  simp only [q1, q2, q3, s1, s2, s3, s4, s5]
  simp
/-! ### the law -/
theorem toD_fine {x : CodeT} (h1 : x.1.size ≤ 1000000) (h2 : x.2.2.1.length ≤ 1000000) (h3 : x.2.2.2.1.length ≤ 1000000) (h4 : x.2.1.length ≤ 1000000) (h5 : ∀ d ∈ x.2.1, d.s0.size ≤ 1000000 ∧ d.l2.length ≤ 1000000) : Fine (toD x) := ⟨h1, h2, h3, h4, h5⟩
theorem ren_fine {c : D} (hf : Fine c) : Fine (toD (renC c)) := by
  refine toD_fine hf.n (by simp only [renC, List.length_map]; exact hf.o) hf.g (by simp only [renC, List.length_map]; exact hf.d) fun d hd => ?_
  obtain ⟨d', h1, rfl⟩ := List.mem_map.1 hd
  exact hf.w d' h1
theorem rd_map (f : D → D) (l : List D) {i : Nat} (hi : i < l.length) : rd (l.map f) i = f (rd l i) := by
  have h1 := rd_get (xs := l.map f) (i := i) (by simpa using hi)
  have h2 := rd_get hi
  rw [List.getElem?_map, h2] at h1
  exact (Option.some.inj h1).symm
theorem ren_eqv (c : D) : Eqv (toD (renC c)) (toD (renC' c)) := by
  refine ⟨rfl, rfl, rfl, rfl, rfl, by show (c.data.map cpD).length = (c.data.map cpR).length; simp, fun i hi => ?_⟩
  have hi' : i < c.data.length := by
    have : (toD (renC c)).data = c.data.map cpD := rfl
    rw [this] at hi; simpa using hi
  show (rd (c.data.map cpD) i).s0 = (rd (c.data.map cpR) i).s0 ∧ (rd (c.data.map cpD) i).b1 = (rd (c.data.map cpR) i).b1 ∧ (rd (c.data.map cpD) i).l2 = (rd (c.data.map cpR) i).l2
  rw [rd_map cpD _ hi', rd_map cpR _ hi']
  exact ⟨rfl, rfl, rfl⟩
theorem no_fine : Fine (toD noC) := toD_fine (by decide) (by decide) (by decide) (by decide) fun d hd => by cases hd
theorem no_eqv : Eqv (toD noC) (toD noC) := ⟨rfl, rfl, rfl, rfl, rfl, rfl, fun _ _ => ⟨rfl, rfl, rfl⟩⟩
theorem numbers_pure (c : D) (hw : Wide c) : Gw06_OcodeNumbers.f c = some true := by
  obtain ⟨b, hb, hf⟩ := heavy_f c hw
  unfold Gw06_OcodeNumbers.f
  rw [hb, Option.bind_some]
  cases b with
  | true => rw [cond_true, awake_f]; rfl
  | false =>
    obtain ⟨hf, -⟩ := hf rfl
    rw [cond_false, renumber_f c hf, Option.bind_some, rrenumber_ref c hf, Option.bind_some]
    by_cases g : checkI c = 0
    · have e := eqcode_f _ _ (ren_eqv c) (ren_fine hf)
      simp only [toD] at e
      unfold renR renR'
      rw [if_pos g, if_pos g, e, Option.bind_some]
      simp only [beq_self_eq_true, Bool.and_self, cond_true, awake_f, Option.bind_some]
    · have e := eqcode_f _ _ no_eqv no_fine
      simp only [toD] at e
      unfold renR renR'
      rw [if_neg g, if_neg g, e, Option.bind_some]
      simp only [beq_self_eq_true, Bool.and_self, cond_true, awake_f, Option.bind_some]
end Go.Pv

namespace Go.Pv
open Go.Proofs Go.Proofs.Ytkmcanknbdaliaa.Lx
set_option maxRecDepth 20000
set_option linter.unusedSimpArgs false
/-! ### the numbers of labels -/
theorem nuR_pos : ∀ {r : List Int} {x : Int}, x ∈ r → 1 ≤ nuR r x ∧ nuR r x ≤ r.length
  | [], x, h => by cases h
  | y :: r, x, h => by
    simp only [nuR, List.length_cons]
    by_cases e : x = y
    · rw [if_pos e]; omega
    · rw [if_neg e]
      have := nuR_pos (r := r) ((List.mem_cons.1 h).resolve_left e)
      omega
theorem nuR_inj : ∀ {r : List Int}, r.Nodup → ∀ {x y : Int}, x ∈ r → y ∈ r → nuR r x = nuR r y → x = y
  | [], _, x, y, h, _, _ => by cases h
  | z :: r, hd, x, y, hx, hy, h => by
    rw [List.nodup_cons] at hd
    simp only [nuR] at h
    by_cases e1 : x = z
    · by_cases e2 : y = z
      · rw [e1, e2]
      · rw [if_pos e1, if_neg e2] at h
        have := (nuR_pos ((List.mem_cons.1 hy).resolve_left e2)).2
        omega
    · by_cases e2 : y = z
      · rw [if_neg e1, if_pos e2] at h
        have := (nuR_pos ((List.mem_cons.1 hx).resolve_left e1)).2
        omega
      · rw [if_neg e1, if_neg e2] at h
        exact nuR_inj hd.2 ((List.mem_cons.1 hx).resolve_left e1) ((List.mem_cons.1 hy).resolve_left e2) h
theorem nuR_app (x : Int) (s : List Int) : ∀ t : List Int, x ∉ t → nuR (t ++ x :: s) x = (s.length : Int) + 1
  | [], _ => by simp [nuR]
  | y :: t, h => by
    simp only [List.cons_append, nuR]
    rw [if_neg (fun e => h (by rw [e]; exact List.mem_cons_self ..))]
    exact nuR_app x s t fun h' => h (List.mem_cons_of_mem _ h')
theorem labR_app : ∀ (l : List Op) (s : List Int), ∃ t, labR l s = t ++ s
  | [], s => ⟨[], rfl⟩
  | o :: l, s => by
    rw [labR]
    by_cases h : o.f0 = 19
    · rw [if_pos h]
      obtain ⟨t, ht⟩ := labR_app l (o.f1 :: s)
      exact ⟨t ++ [o.f1], by rw [ht]; simp⟩
    · rw [if_neg h]; exact labR_app l s
theorem labR_mem {l : List Op} {s : List Int} {x : Int} (h : x ∈ s) : x ∈ labR l s := by
  obtain ⟨t, ht⟩ := labR_app l s
  rw [ht]; exact List.mem_append_right _ h
theorem labR_op : ∀ {l : List Op} {s : List Int} {o : Op}, o ∈ l → o.f0 = 19 → o.f1 ∈ labR l s
  | o' :: l, s, o, h, h19 => by
    rw [labR]
    rcases List.mem_cons.1 h with e | h
    · subst e
      rw [if_pos h19]; exact labR_mem (List.mem_cons_self ..)
    · exact labR_op h h19
theorem labR_from : ∀ {l : List Op} {s : List Int} {x : Int}, x ∈ labR l s → x ∈ s ∨ ∃ o ∈ l, o.f0 = 19 ∧ o.f1 = x
  | [], s, x, h => .inl h
  | o :: l, s, x, h => by
    rw [labR] at h
    rcases labR_from h with h | ⟨o', h1, h2⟩
    · by_cases e : o.f0 = 19
      · rw [if_pos e] at h
        rcases List.mem_cons.1 h with h | h
        · exact .inr ⟨o, List.mem_cons_self .., e, h.symm⟩
        · exact .inl h
      · rw [if_neg e] at h; exact .inl h
    · exact .inr ⟨o', List.mem_cons_of_mem _ h1, h2⟩
/-! ### one instruction -/
abbrev M6 (o : Op) : Prop := o.f0 = 20 ∨ o.f0 = 21 ∨ o.f0 = 22 ∨ o.f0 = 27 ∨ o.f0 = 29
structure LabIn (r : List Int) (o : Op) : Prop where
  pos : ∀ x ∈ r, 1 ≤ x
  c19 : o.f0 = 19 → o.f1 ∈ r
  nam : M6 o → o.f1 ∈ r
  c30 : o.f0 = 30 → o.f2 ∈ r
theorem named_m6 {o : Op} (h : M6 o) : namedI o = o.f1 := by unfold namedI; rw [if_pos h]
theorem named_no {o : Op} (h : ¬ M6 o) (h2 : o.f0 ≠ 30) : namedI o = 0 := by unfold namedI; rw [if_neg h, if_neg h2]
theorem named_in {r : List Int} {o : Op} (h : LabIn r o) (hn : namedI o > 0) : namedI o ∈ r := by
  by_cases e : o.f0 = 30
  · rw [named_30 e]; exact h.c30 e
  · have := named_6 hn e
    rw [named_m6 this]; exact h.nam this
theorem relab_f0 (r : List Int) (o : Op) : (relab r o).f0 = o.f0 := by
  unfold relab
  split
  · rfl
  · split <;> rfl
theorem relab_f2 (r : List Int) {o : Op} (h : o.f0 ≠ 30) : (relab r o).f2 = o.f2 := by
  unfold relab
  rw [if_neg h]
  split <;> rfl
theorem relab_f2' (r : List Int) {o : Op} (h : o.f0 = 30) : (relab r o).f2 = nuR r o.f2 := by
  unfold relab
  rw [if_pos h]; rfl
theorem relab_f1 (r : List Int) {o : Op} (h : ¬ M6 o) (h2 : o.f0 ≠ 19) : (relab r o).f1 = o.f1 := by
  unfold relab
  by_cases e : o.f0 = 30
  · rw [if_pos e]; rfl
  · rw [if_neg e, if_neg]
    rintro (h3 | h3)
    · exact h2 h3
    · exact h (named_6 h3 e)
theorem relab_f1' {r : List Int} {o : Op} (hl : LabIn r o) (h : M6 o ∨ o.f0 = 19) : (relab r o).f1 = nuR r o.f1 := by
  have e : o.f0 ≠ 30 := by rcases h with (h | h | h | h | h) | h <;> rw [h] <;> decide
  unfold relab
  rw [if_neg e, if_pos]
  · rfl
  · rcases h with h | h
    · have := hl.pos _ (hl.nam h)
      exact .inr (by rw [named_m6 h]; omega)
    · exact .inl h
theorem relab_m6 {r : List Int} {o : Op} : M6 (relab r o) ↔ M6 o := by unfold M6; rw [relab_f0]
theorem named_relab {r : List Int} {o : Op} (hl : LabIn r o) : (namedI o > 0 → namedI (relab r o) = nuR r (namedI o)) ∧ (¬ namedI o > 0 → namedI (relab r o) = namedI o) := by
  by_cases h : M6 o
  · have := hl.pos _ (hl.nam h)
    rw [named_m6 h, named_m6 (relab_m6.2 h), relab_f1' hl (.inl h)]
    exact ⟨fun _ => rfl, fun h => absurd this (by omega)⟩
  · by_cases e : o.f0 = 30
    · have := hl.pos _ (hl.c30 e)
      rw [named_30 e, named_30 ((relab_f0 r o).trans e), relab_f2' r e]
      exact ⟨fun _ => rfl, fun h => absurd this (by omega)⟩
    · rw [named_no h e, named_no (fun h' => h (relab_m6.1 h')) (by rw [relab_f0]; exact e)]
      exact ⟨fun h => absurd h (by omega), fun _ => rfl⟩
theorem named_gt {r : List Int} {o : Op} (hl : LabIn r o) : (namedI (relab r o) > 0) ↔ namedI o > 0 := by
  obtain ⟨h1, h2⟩ := named_relab hl
  by_cases h : namedI o > 0
  · have := (nuR_pos (named_in hl h)).1
    rw [h1 h]; constructor
    · intro _; exact h
    · intro _; omega
  · rw [h2 h]
theorem fits_relab {r : List Int} {o : Op} (d : Int) (x : D) (b : Bool) : fitsB (relab r o) d x b = fitsB o d x b := by
  unfold fitsB
  rw [relab_f0]
  by_cases h : M6 o ∨ o.f0 = 19
  · rcases h with (h | h | h | h | h) | h <;> simp [h]
  · rw [relab_f1 r (fun h' => h (.inl h')) (fun h' => h (.inr h'))]
theorem after_relab {r : List Int} {o : Op} (d : Int) (x : D) : afterI (relab r o) d x = afterI o d x := by
  unfold afterI
  rw [relab_f0]
  by_cases h : M6 o ∨ o.f0 = 19
  · rcases h with (h | h | h | h | h) | h <;> simp [h]
  · rw [relab_f1 r (fun h' => h (.inl h')) (fun h' => h (.inr h'))]
    by_cases e : o.f0 = 30
    · simp [e]
    · rw [relab_f2 r e]
/-! ### the order of instructions -/
theorem f0_map (r : List Int) (l : List Op) (i : Nat) : (opAt (l.map (relab r)) i).f0 = (opAt l i).f0 := by
  by_cases h : i < l.length
  · show (rd (l.map (relab r)) i).f0 = _
    rw [rd_map _ _ h, relab_f0]
  · show (rd (l.map (relab r)) i).f0 = (rd l i).f0
    rw [rd_out _ _ (by simp; omega), rd_out _ _ (by omega)]
theorem f2_map (r : List Int) (l : List Op) (i : Nat) (h30 : (opAt l i).f0 ≠ 30) : (opAt (l.map (relab r)) i).f2 = (opAt l i).f2 := by
  by_cases h : i < l.length
  · show (rd (l.map (relab r)) i).f2 = _
    rw [rd_map _ _ h, relab_f2 r h30]
  · show (rd (l.map (relab r)) i).f2 = (rd l i).f2
    rw [rd_out _ _ (by simp; omega), rd_out _ _ (by omega)]
theorem ends_map (r : List Int) (l : List Op) (i : Nat) : endsB (l.map (relab r)) i = endsB l i := by
  unfold endsB
  rw [f0_map, f0_map, List.length_map]
  by_cases h : (opAt l i).f0 = 30
  · simp [h]
  · rw [f2_map r l i h]
theorem cases_map (r : List Int) (l : List Op) : ∀ (n i : Nat), casesB (l.map (relab r)) i n = casesB l i n
  | 0, i => rfl
  | n + 1, i => by simp only [casesB, f0_map, List.length_map, cases_map r l n]
theorem last_map (r : List Int) (l : List Op) (i : Nat) : lastOk (l.map (relab r)) i = lastOk l i := by
  unfold lastOk; rw [f0_map, List.length_map, ends_map]
theorem label_map (r : List Int) (l : List Op) (i : Nat) : labelOk (l.map (relab r)) i = labelOk l i := by
  unfold labelOk; rw [f0_map, List.length_map]
theorem order_map (r : List Int) (l : List Op) : ∀ (n i : Nat), l.length - i ≤ n → orderGo (l.map (relab r)) i = orderGo l i
  | 0, i, hn => by
    rw [orderGo]
    conv => rhs; rw [orderGo]
    rw [List.length_map, if_neg (by omega), if_neg (by omega), f0_map]
  | n + 1, i, hn => by
    rw [orderGo]
    conv => rhs; rw [orderGo]
    simp only [List.length_map, f0_map, label_map, last_map]
    by_cases hi : i < l.length
    · rw [if_pos hi, if_pos hi]
      have ih := fun j (h1 : i < j) => order_map r l n j (by omega)
      by_cases e : (opAt l i).f0 = 29
      · rw [if_pos e, if_pos e, f2_map r l i (by rw [e]; decide), cases_map, ih _ (by omega)]
      · rw [if_neg e, if_neg e, ih _ (by omega)]
    · rw [if_neg hi, if_neg hi]
theorem leads_map (r : List Int) : ∀ (l : List Op) (i : Nat), leadsL (l.map (relab r)) i = leadsL l i
  | [], i => rfl
  | o :: l, i => by
    rw [List.map_cons, leadsL, leadsL, relab_f0, leads_map r l]
theorem lead_map (r : List Int) (l : List Op) (i : Nat) : (leadOp (l.map (relab r)) i).f0 = (leadOp l i).f0 := by
  unfold leadOp
  rw [← List.map_drop, leads_map, f0_map]
/-! ### places -/
def PlRel (r : List Int) (xs xs' : List D) : Prop := ∀ x ∈ r, rd xs' (nuR r x).toNat = rd xs x.toNat
theorem plRel_set {r : List Int} (hd : r.Nodup) (hp : ∀ x ∈ r, 1 ≤ x) {L : Nat} (hL : ∀ x ∈ r, x ≤ L) {xs xs' : List D} (h1 : xs.length = L + 1) (h2 : xs'.length = r.length + 1) (h : PlRel r xs xs') {y : Int} (hy : y ∈ r) (v : D) : PlRel r (xs.set y.toNat v) (xs'.set (nuR r y).toNat v) := by
  intro x hx
  rw [rd_setI, rd_setI]
  have a1 := hp x hx
  have a2 := hp y hy
  have a3 := hL y hy
  have a4 := nuR_pos hx
  have a5 := nuR_pos hy
  by_cases e : x = y
  · subst e
    rw [if_pos ⟨rfl, by omega⟩, if_pos ⟨rfl, by omega⟩]
  · rw [if_neg (fun h' => e (nuR_inj hd hx hy (by omega))), if_neg (fun h' => e (by omega))]
    exact h x hx
def lastL : List Op → Int → Int
  | [], q => q
  | o :: l, q => lastL l (if o.f0 = 19 then mx q o.f1 else q)
theorem places_map {r : List Int} (hd : r.Nodup) (hp : ∀ x ∈ r, 1 ≤ x) {L : Nat} (hL : ∀ x ∈ r, x ≤ L) : ∀ (l : List Op) (i : Nat) (p q q' : Int) (xs ys xs' ys' : List D) (z : List D × List D × Int × Int), placL l i p q xs ys = some z → (∀ o ∈ l, LabIn r o) →
    xs.length = L + 1 → ys.length = L + 1 → xs'.length = r.length + 1 → ys'.length = r.length + 1 → PlRel r xs xs' → PlRel r ys ys' →
    ∃ z', placL (l.map (relab r)) i p q' xs' ys' = some z' ∧ PlRel r z.1 z'.1 ∧ PlRel r z.2.1 z'.2.1 ∧ z'.2.2.1 = z.2.2.1 ∧ z'.2.2.2 = lastL (l.map (relab r)) q'
  | [], i, p, q, q', xs, ys, xs', ys', z, h, hl, l1, l2, l3, l4, r1, r2 => by
    simp only [placL, Option.some.injEq] at h
    subst h
    exact ⟨_, rfl, r1, r2, rfl, rfl⟩
  | o :: l, i, p, q, q', xs, ys, xs', ys', z, h, hl, l1, l2, l3, l4, r1, r2 => by
    have ho := hl o (List.mem_cons_self ..)
    have hl' : ∀ o ∈ l, LabIn r o := fun o h => hl o (List.mem_cons_of_mem _ h)
    rw [placL] at h
    rw [List.map_cons, placL, lastL, relab_f0]
    by_cases e1 : o.f0 = 24
    · rw [if_pos e1] at h ⊢
      rw [relab_f1 r (by unfold M6; omega) (by omega), if_neg (show ¬ o.f0 = 19 by omega)]
      by_cases e2 : o.f1 = p + 1
      · rw [if_pos e2] at h ⊢
        exact places_map hd hp hL l _ _ _ _ _ _ _ _ _ h hl' l1 l2 l3 l4 r1 r2
      · rw [if_neg e2] at h; exact absurd h (by simp)
    · rw [if_neg e1] at h ⊢
      by_cases e2 : o.f0 = 19
      · rw [if_pos e2] at h ⊢
        have hm := ho.c19 e2
        rw [relab_f1' ho (.inr e2), if_pos e2, r2 _ hm]
        by_cases e3 : (rd ys o.f1.toNat).int ≠ 0 ∨ p = 0
        · rw [if_pos e3] at h; exact absurd h (by simp)
        · rw [if_neg e3] at h ⊢
          exact places_map hd hp hL l _ _ _ _ _ _ _ _ _ h hl' (by simpa using l1) (by simpa using l2) (by simpa using l3) (by simpa using l4) (plRel_set hd hp hL l1 l3 r1 hm _) (plRel_set hd hp hL l2 l4 r2 hm _)
      · rw [if_neg e2] at h ⊢
        rw [if_neg e2]
        exact places_map hd hp hL l _ _ _ _ _ _ _ _ _ h hl' l1 l2 l3 l4 r1 r2
theorem last_len {r : List Int} (hd : r.Nodup) : ∀ (l : List Op) (s : List Int), labR l s = r → (∀ o ∈ l, LabIn r o) → lastL (l.map (relab r)) (s.length : Int) = (r.length : Int)
  | [], s, h, hl => by rw [← h]; rfl
  | o :: l, s, h, hl => by
    have ho := hl o (List.mem_cons_self ..)
    have hl' : ∀ o ∈ l, LabIn r o := fun o h => hl o (List.mem_cons_of_mem _ h)
    rw [labR] at h
    rw [List.map_cons, lastL, relab_f0]
    by_cases e : o.f0 = 19
    · rw [if_pos e] at h ⊢
      obtain ⟨t, ht⟩ := labR_app l (o.f1 :: s)
      rw [h] at ht
      have hx : o.f1 ∉ t := by
        intro hm
        rw [ht] at hd
        exact (List.nodup_append.1 hd).2.2 _ hm _ (List.mem_cons_self ..) rfl
      rw [relab_f1' ho (.inr e)]
      have hn : nuR r o.f1 = (s.length : Int) + 1 := by rw [ht]; exact nuR_app _ _ _ hx
      have := last_len hd l (o.f1 :: s) h hl'
      rw [List.length_cons] at this
      rw [hn, ← this]
      congr 1
      unfold mx
      rw [if_pos (by omega)]; simp
    · rw [if_neg e] at h ⊢
      exact last_len hd l s h hl'
theorem placL_at : ∀ (l : List Op) (i : Nat) (p q : Int) (xs ys : List D) (s : List Int) (z : List D × List D × Int × Int), placL l i p q xs ys = some z → (∀ o ∈ l, o.f0 = 19 → 0 ≤ o.f1) → ∀ x : Int, 0 ≤ x → x ∉ labR l s → rd z.1 x.toNat = rd xs x.toNat
  | [], i, p, q, xs, ys, s, z, h, hl, x, h0, hx => by
    simp only [placL, Option.some.injEq] at h
    subst h; rfl
  | o :: l, i, p, q, xs, ys, s, z, h, hl, x, h0, hx => by
    have hl' : ∀ o ∈ l, o.f0 = 19 → 0 ≤ o.f1 := fun o h => hl o (List.mem_cons_of_mem _ h)
    rw [placL] at h
    rw [labR] at hx
    by_cases e1 : o.f0 = 24
    · rw [if_pos e1] at h
      rw [if_neg (by omega)] at hx
      by_cases e2 : o.f1 = p + 1
      · rw [if_pos e2] at h
        exact placL_at l _ _ _ _ _ _ _ h hl' x h0 hx
      · rw [if_neg e2] at h; exact absurd h (by simp)
    · rw [if_neg e1] at h
      by_cases e2 : o.f0 = 19
      · rw [if_pos e2] at h hx
        by_cases e3 : (rd ys o.f1.toNat).int ≠ 0 ∨ p = 0
        · rw [if_pos e3] at h; exact absurd h (by simp)
        · rw [if_neg e3] at h
          rw [placL_at l _ _ _ _ _ _ _ h hl' x h0 hx, rd_setI, if_neg]
          intro h'
          have := hl o (List.mem_cons_self ..) e2
          exact hx (by rw [show x = o.f1 by omega]; exact labR_mem (List.mem_cons_self ..))
      · rw [if_neg e2] at h hx
        exact placL_at l _ _ _ _ _ _ _ h hl' x h0 hx
theorem rd_zeros (n k : Nat) : rd (zeros n) k = .i 0 := by
  by_cases h : k < (zeros n).length
  · exact List.eq_of_mem_replicate (rd_mem h)
  · exact rd_out _ _ (by omega)
/-! ### valid code stays valid -/
abbrev labs (c : D) : List Int := labR c.ops []
theorem labs_bd {c : D} (hv : Valid c) : ∀ x ∈ labs c, 1 ≤ x ∧ x ≤ c.labels := by
  intro x hx
  rcases labR_from hx with h | ⟨o, h1, h2, rfl⟩
  · cases h
  · exact opOk_lab (List.all_eq_true.1 hv.st.ops o h1) (kind6 _ (.inl h2))
structure Pl (c : D) (z : List D × List D × Int × Int) : Prop where
  eq : placL c.ops 0 0 0 (zeros c.labels.toNat) (zeros c.labels.toNat) = some z
  p : z.2.2.1 = c.procs
  q : z.2.2.2 = c.labels
theorem pl_of {c : D} (hp : (placR c).2.2 = true) : ∃ z, Pl c z ∧ (placR c).1 = z.1 ∧ (placR c).2.1 = z.2.1 := by
  unfold placR at hp ⊢
  cases hr : placL c.ops 0 0 0 (zeros c.labels.toNat) (zeros c.labels.toNat) with
  | none => rw [hr] at hp; exact absurd hp (by simp [placFin])
  | some z =>
    rw [hr] at hp
    have := and2 (show ((z.2.2.1 == c.procs) && (z.2.2.2 == c.labels)) = true from hp)
    exact ⟨z, ⟨hr, beq_iff_eq.1 this.1, beq_iff_eq.1 this.2⟩, rfl, rfl⟩
theorem pl_to {c : D} {z : List D × List D × Int × Int} (h : Pl c z) : placR c = (z.1, z.2.1, true) := by
  unfold placR
  rw [h.eq]
  show (z.1, z.2.1, (z.2.2.1 == c.procs) && (z.2.2.2 == c.labels)) = _
  rw [h.p, h.q]; simp
structure Coded (c : D) : Prop where
  name : (quoteR c.s0).2 = 0
  p : 0 ≤ c.procs
  l : 0 ≤ c.labels
  ops : c.ops.all (opOk c) = true
  pl : (placR c).2.2 = true
  ord : orderB c.ops = true
  areas : areasB c = true
  names : namesB (placR c).1 (placR c).2.1 c.ops 0 = true
theorem coded_iff {c : D} : codedB c = true ↔ Coded c := by
  unfold codedB
  simp only [Bool.and_eq_true, decide_eq_true_eq]
  constructor
  · rintro ⟨⟨⟨⟨⟨⟨⟨h1, h2⟩, h3⟩, h4⟩, h5⟩, h6⟩, h7⟩, h8⟩; exact ⟨h1, h2, h3, h4, h5, h6, h7, h8⟩
  · rintro ⟨h1, h2, h3, h4, h5, h6, h7, h8⟩; exact ⟨⟨⟨⟨⟨⟨⟨h1, h2⟩, h3⟩, h4⟩, h5⟩, h6⟩, h7⟩, h8⟩
theorem named_lab {c : D} (hv : Valid c) {o : Op} (ho : o ∈ c.ops) (hn : namedI o > 0) : namedI o ∈ labs c := by
  have hc := coded_iff.1 hv.coded
  obtain ⟨z, hz, e1, -⟩ := pl_of hc.pl
  have h1 := names_at c.ops 0 hc.names o ho hn
  rw [e1] at h1
  by_cases hm : namedI o ∈ labs c
  · exact hm
  · exfalso
    apply h1
    unfold ri
    rw [placL_at _ _ _ _ _ _ [] _ hz.eq (fun o ho h => (labels_ok hc.ops o ho h).1) _ (by omega) hm, rd_zeros]; rfl
theorem labIn {c : D} (hv : Valid c) {o : Op} (ho : o ∈ c.ops) : LabIn (labs c) o := by
  have hk := List.all_eq_true.1 hv.st.ops o ho
  refine ⟨fun x hx => (labs_bd hv x hx).1, fun h => labR_op ho h, fun h => ?_, fun h => ?_⟩
  · have := (opOk_lab hk (kind6 _ (.inr h))).1
    have h2 := named_lab hv ho (by rw [named_m6 h]; omega)
    rwa [named_m6 h] at h2
  · have h3 := (and2 (opOk_num hk)).2
    rw [if_neg (by rw [h]; decide), if_neg (by rw [h]; decide), if_pos h] at h3
    have := (inIv_iff.1 h3).1
    have h2 := named_lab hv ho (by rw [named_30 h]; omega)
    rwa [named_30 h] at h2
theorem kind6_inv (n : Int) (h0 : 1 ≤ n) (h1 : n < 31) (h : (kindAt n).f1 = 6) : n = 19 ∨ n = 20 ∨ n = 21 ∨ n = 22 ∨ n = 27 ∨ n = 29 := by
  have k : (List.range 31).all (fun n => !((kindAt (n : Nat)).f1 == 6) || (Nat.beq n 19 || Nat.beq n 20 || Nat.beq n 21 || Nat.beq n 22 || Nat.beq n 27 || Nat.beq n 29)) = true := by kernel_rfl
  have k1 := List.all_eq_true.1 k n.toNat (List.mem_range.2 (by omega))
  rw [show ((n.toNat : Nat) : Int) = n by omega, h] at k1
  simp only [beq_self_eq_true, Bool.not_true, Bool.false_or, Bool.or_eq_true, Nat.beq_eq] at k1
  omega
abbrev ren (c : D) : D := toD (renC c)
theorem ren_data (c : D) : (ren c).data.length = c.data.length := by show (c.data.map cpD).length = _; simp
theorem opOk_ren {c : D} (hv : Valid c) {o : Op} (ho : o ∈ c.ops) : opOk (ren c) (relab (labs c) o) = true := by
  have hk := List.all_eq_true.1 hv.st.ops o ho
  have hl := labIn hv ho
  unfold opOk at hk ⊢
  rw [relab_f0]
  simp only [Bool.and_eq_true, decide_eq_true_eq] at hk ⊢
  obtain ⟨⟨h1, h2⟩, h3⟩ := hk
  refine ⟨⟨h1, h2⟩, ?_⟩
  unfold numbersB at h3 ⊢
  simp only [Bool.and_eq_true] at h3 ⊢
  obtain ⟨h4, h5⟩ := h3
  have eL : (ren c).labels = ((labs c).length : Int) := rfl
  have eP : (ren c).procs = c.procs := rfl
  constructor
  · by_cases h6 : (kindAt o.f0).f1 = 6
    · have hx := kind6_inv _ h1 h2 h6
      have hs : M6 o ∨ o.f0 = 19 := hx.elim .inr .inl
      have hm : o.f1 ∈ labs c := hs.elim hl.nam hl.c19
      rw [h6]
      unfold numOk
      rw [relab_f1' hl hs]
      show inIv (nuR (labs c) o.f1) 1 (ren c).labels = true
      rw [eL]
      exact inIv_iff.2 (nuR_pos hm)
    · have hn : ¬ (M6 o ∨ o.f0 = 19) := fun h => h6 (kind6 _ (h.elim .inr .inl))
      rw [show numOk (relab (labs c) o) (ren c) (kindAt o.f0).f1 = numOk o c (kindAt o.f0).f1 by
        unfold numOk
        rw [relab_f1 _ (fun h' => hn (.inl h')) (fun h' => hn (.inr h')), ren_data, eP, if_neg h6, if_neg h6]]
      exact h4
  · rw [relab_f0]
    by_cases e : o.f0 = 30
    · rw [if_neg (by rw [e]; decide), if_neg (by rw [e]; decide), if_pos e, relab_f2' _ e, eL]
      exact inIv_iff.2 (nuR_pos (hl.c30 e))
    · rw [relab_f2 _ e]
      rw [if_neg e] at h5 ⊢
      exact h5
theorem names_map {r : List Int} {xs ys xs' ys' : List D} (r1 : PlRel r xs xs') (r2 : PlRel r ys ys') : ∀ (l : List Op) (p : Int), (∀ o ∈ l, LabIn r o) → namesB xs' ys' (l.map (relab r)) p = namesB xs ys l p
  | [], p, hl => rfl
  | o :: l, p, hl => by
    have ho := hl o (List.mem_cons_self ..)
    have hl' : ∀ o ∈ l, LabIn r o := fun o h => hl o (List.mem_cons_of_mem _ h)
    have e : (if o.f0 = 24 then (relab r o).f1 else p) = (if o.f0 = 24 then o.f1 else p) := by
      by_cases e1 : o.f0 = 24
      · rw [relab_f1 r (by unfold M6; omega) (by omega)]
      · rw [if_neg e1, if_neg e1]
    rw [List.map_cons, namesB, namesB, relab_f0, e, names_map r1 r2 l _ hl']
    generalize (if o.f0 = 24 then o.f1 else p) = p'
    by_cases hn : namedI o > 0
    · have hm := named_in ho hn
      have hp := (nuR_pos hm).1
      rw [(named_relab ho).1 hn, r1 _ hm, r2 _ hm]
      by_cases h : ((rd ys (namedI o).toNat).int ≠ p' ∨ (rd xs (namedI o).toNat).int = 0)
      · rw [if_pos ⟨by omega, h⟩, if_pos ⟨hn, h⟩]
      · rw [if_neg (fun h' => h h'.2), if_neg (fun h' => h h'.2)]
    · rw [if_neg (fun h' => hn ((named_gt ho).1 h'.1)), if_neg (fun h' => hn h'.1)]
theorem round_map {r : List Int} {xs xs' : List D} (r1 : PlRel r xs xs') {l : List Op} (hl : ∀ o ∈ l, LabIn r o) {i : Nat} (hi : i < l.length) (d : Int) : roundOk (l.map (relab r)) xs' i d = roundOk l xs i d := by
  have ho : LabIn r (opAt l i) := hl _ (rd_mem hi)
  have eo : opAt (l.map (relab r)) i = relab r (opAt l i) := rd_map _ _ hi
  unfold roundOk
  rw [f0_map, f0_map, eo, fits_relab, after_relab]
  have e1 : jumpOk (l.map (relab r)) xs' (relab r (opAt l i)) = jumpOk l xs (opAt l i) := by
    unfold jumpOk
    rw [relab_f0]
    by_cases hn : namedI (opAt l i) > 0
    · have hm := named_in ho hn
      have hp := (nuR_pos hm).1
      rw [(named_relab ho).1 hn, r1 _ hm, lead_map, decide_eq_true hn, decide_eq_true (show nuR r (namedI (opAt l i)) > 0 by omega)]
    · rw [decide_eq_false hn, decide_eq_false (fun h => hn ((named_gt ho).1 h))]; rfl
  have e2 : fallOk (l.map (relab r)) i (relab r (opAt l i)) = fallOk l i (opAt l i) := by
    unfold fallOk
    rw [relab_f0, ends_map, List.length_map, lead_map]
  rw [e1, e2]
theorem stack_map {r : List Int} {xs xs' : List D} (r1 : PlRel r xs xs') {l : List Op} (hl : ∀ o ∈ l, LabIn r o) : ∀ (n i : Nat) (d : Int), l.length - i ≤ n → stackGo (l.map (relab r)) xs' i d = stackGo l xs i d
  | 0, i, d, hn => by
    rw [stackGo]
    conv => rhs; rw [stackGo]
    rw [List.length_map, if_neg (by omega), if_neg (by omega)]
  | n + 1, i, d, hn => by
    rw [stackGo]
    conv => rhs; rw [stackGo]
    rw [List.length_map]
    by_cases hi : i < l.length
    · have eo : opAt (l.map (relab r)) i = relab r (opAt l i) := rd_map _ _ hi
      rw [if_pos hi, if_pos hi, round_map r1 hl hi, eo, relab_f0, after_relab, stack_map r1 hl n (i + 1) _ (by omega)]
    · rw [if_neg hi, if_neg hi]
theorem nodup_len : ∀ (n : Nat) (r : List Int), r.Nodup → (∀ x ∈ r, 1 ≤ x ∧ x ≤ n) → r.length ≤ n
  | 0, [], _, _ => Nat.le_refl _
  | 0, x :: r, _, h => by have := h x (List.mem_cons_self ..); omega
  | n + 1, r, hd, h => by
    have ih := nodup_len n (r.erase ((n : Int) + 1)) (hd.erase _) fun x hx => by
      have h1 := (hd.mem_erase_iff).1 hx
      have h2 := h x h1.2
      have h3 := h1.1
      omega
    by_cases hm : ((n : Int) + 1) ∈ r
    · rw [List.length_erase_of_mem hm] at ih; omega
    · rw [List.erase_of_not_mem hm] at ih; omega
theorem labs_len {c : D} (hv : Valid c) : ((labs c).length : Int) ≤ c.labels := by
  have h1 := labs_bd hv
  have h0 := hv.st.l
  have := nodup_len c.labels.toNat (labs c) (labs_ok hv) fun x hx => by have := h1 x hx; omega
  omega
theorem ren_valid {c : D} (hv : Valid c) : Valid (ren c) ∧ PlRel (labs c) (placR c).1 (placR (ren c)).1 := by
  have hc := coded_iff.1 hv.coded
  have hbd := labs_bd hv
  have hd := labs_ok hv
  have hll := labs_len hv
  have hlim := hv.lim
  have hLI : ∀ o ∈ c.ops, LabIn (labs c) o := fun o ho => labIn hv ho
  obtain ⟨z, hz, e1, e2⟩ := pl_of hc.pl
  obtain ⟨z', hz', p1, p2, p3, p4⟩ := places_map (r := labs c) hd (fun x hx => (hbd x hx).1) (L := c.labels.toNat) (fun x hx => by have := hbd x hx; omega) c.ops 0 0 0 0 (zeros c.labels.toNat) (zeros c.labels.toNat) (zeros (labs c).length) (zeros (labs c).length) z hz.eq hLI (by simp [zeros]) (by simp [zeros]) (by simp [zeros]) (by simp [zeros]) (fun x _ => by rw [rd_zeros, rd_zeros]) (fun x _ => by rw [rd_zeros, rd_zeros])
  have hz2 : Pl (ren c) z' := ⟨hz', p3.trans hz.p, p4.trans (last_len hd c.ops [] rfl hLI)⟩
  have e3 := pl_to hz2
  have hcd : Coded (ren c) := by
    refine ⟨hc.name, hc.p, by show 0 ≤ ((labs c).length : Int); omega, ?_, by rw [e3], ?_, ?_, ?_⟩
    · refine List.all_eq_true.2 fun o ho => ?_
      obtain ⟨o', h1, rfl⟩ := List.mem_map.1 (show o ∈ c.ops.map (relab (labs c)) from ho)
      exact opOk_ren hv h1
    · show orderGo (c.ops.map (relab (labs c))) 0 = true
      rw [order_map _ _ c.ops.length 0 (by omega)]; exact hc.ord
    · have h := hc.areas
      unfold areasB at h ⊢
      rw [show (ren c).data.all areaB = c.data.all areaB by
        show (c.data.map cpD).all areaB = _
        rw [List.all_map]; rfl]
      exact h
    · rw [e3]
      show namesB z'.1 z'.2.1 (c.ops.map (relab (labs c))) 0 = true
      rw [names_map p1 p2 c.ops 0 hLI, ← e1, ← e2]; exact hc.names
  refine ⟨⟨ren_fine hv.fine, ?_, coded_iff.2 hcd, ?_⟩, by rw [e3, e1]; exact p1⟩
  · have h := hv.small
    unfold largeB at h ⊢
    simp only [Bool.or_eq_false_iff, decide_eq_false_iff_not] at h ⊢
    obtain ⟨⟨⟨⟨h1, h2⟩, h3⟩, h4⟩, h5⟩ := h
    refine ⟨⟨⟨⟨?_, ?_⟩, h3⟩, ?_⟩, ?_⟩
    · show ¬ ((c.ops.map (relab (labs c))).length : Int) > 40000
      rw [List.length_map]; exact h1
    · rw [ren_data]; exact h2
    · show ¬ ((labs c).length : Int) > 20000
      omega
    · show ¬ areasSize (c.data.map cpD) > 7800
      unfold areasSize at h5 ⊢
      rw [List.map_map]; exact h5
  · show stackGo (c.ops.map (relab (labs c))) (placR (ren c)).1 0 0 = true
    rw [e3, stack_map p1 hLI c.ops.length 0 0 (by omega), ← e1]; exact hv.stacked
theorem check_zero {c : D} (hv : Valid c) : checkI c = 0 := by
  unfold checkI
  rw [if_neg (by rw [hv.small]; decide), if_pos hv.coded, if_pos hv.stacked]
/-! ### twice is once -/
def cnt : Nat → List Int
  | 0 => []
  | n + 1 => ((n : Int) + 1) :: cnt n
theorem cnt_len : ∀ n, (cnt n).length = n
  | 0 => rfl
  | n + 1 => by rw [cnt, List.length_cons, cnt_len n]
theorem nuR_cnt : ∀ (n : Nat) (k : Int), 1 ≤ k → k ≤ n → nuR (cnt n) k = k
  | 0, k, h1, h2 => by omega
  | n + 1, k, h1, h2 => by
    rw [cnt, nuR, cnt_len]
    by_cases e : k = (n : Int) + 1
    · rw [if_pos e, e]
    · rw [if_neg e]; exact nuR_cnt n k h1 (by omega)
theorem labs_map {r : List Int} (hd : r.Nodup) : ∀ (l : List Op) (s : List Int), labR l s = r → (∀ o ∈ l, LabIn r o) → labR (l.map (relab r)) (cnt s.length) = cnt r.length
  | [], s, h, hl => by rw [← h]; rfl
  | o :: l, s, h, hl => by
    have ho := hl o (List.mem_cons_self ..)
    have hl' : ∀ o ∈ l, LabIn r o := fun o h => hl o (List.mem_cons_of_mem _ h)
    rw [labR] at h
    rw [List.map_cons, labR, relab_f0]
    by_cases e : o.f0 = 19
    · rw [if_pos e] at h ⊢
      obtain ⟨t, ht⟩ := labR_app l (o.f1 :: s)
      rw [h] at ht
      have hx : o.f1 ∉ t := by
        intro hm
        rw [ht] at hd
        exact (List.nodup_append.1 hd).2.2 _ hm _ (List.mem_cons_self ..) rfl
      have hn : nuR r o.f1 = (s.length : Int) + 1 := by rw [ht]; exact nuR_app _ _ _ hx
      rw [relab_f1' ho (.inr e), hn]
      exact labs_map hd l (o.f1 :: s) h hl'
    · rw [if_neg e] at h ⊢
      exact labs_map hd l s h hl'
theorem relab_twice {r : List Int} {o : Op} (hl : LabIn r o) : relab (cnt r.length) (relab r o) = relab r o := by
  have hn := named_relab hl
  by_cases e : o.f0 = 30
  · have hm := nuR_pos (hl.c30 e)
    have e1 : relab r o = .r [o.cell 0, o.cell 1, .i (nuR r o.f2)] := by unfold relab; rw [if_pos e]
    rw [relab, if_pos (by rw [relab_f0]; exact e), relab_f2' r e, nuR_cnt _ _ hm.1 hm.2, e1]; rfl
  · by_cases h : o.f0 = 19 ∨ namedI o > 0
    · have hs : M6 o ∨ o.f0 = 19 := h.elim .inr fun h => .inl (named_6 h e)
      have hm := nuR_pos (hs.elim hl.nam hl.c19)
      have e1 : relab r o = .r [o.cell 0, .i (nuR r o.f1), o.cell 2] := by unfold relab; rw [if_neg e, if_pos h]
      rw [relab, if_neg (by rw [relab_f0]; exact e), if_pos (by rw [relab_f0]; exact h.imp id (named_gt hl).2), relab_f1' hl hs, nuR_cnt _ _ hm.1 hm.2, e1]; rfl
    · rw [relab, if_neg (by rw [relab_f0]; exact e), if_neg (by rw [relab_f0]; exact fun h' => h (h'.imp id (named_gt hl).1))]
theorem ren_twice {c : D} (hv : Valid c) : renC (ren c) = renC c := by
  have hd := labs_ok hv
  have hLI : ∀ o ∈ c.ops, LabIn (labs c) o := fun o ho => labIn hv ho
  have e : labR (c.ops.map (relab (labs c))) [] = cnt (labs c).length := labs_map hd c.ops [] rfl hLI
  show (c.s0, (c.data.map cpD).map cpD, (c.ops.map (relab (labs c))).map (relab (labR (c.ops.map (relab (labs c))) [])), c.gl, c.procs, ((labR (c.ops.map (relab (labs c))) []).length : Int), ()) = (c.s0, c.data.map cpD, c.ops.map (relab (labs c)), c.gl, c.procs, ((labs c).length : Int), ())
  rw [e, cnt_len, List.map_map, List.map_map]
  have h1 : (c.data.map (cpD ∘ cpD)) = c.data.map cpD := List.map_congr_left fun d _ => rfl
  have h2 : c.ops.map (relab (cnt (labs c).length) ∘ relab (labs c)) = c.ops.map (relab (labs c)) := List.map_congr_left fun o ho => relab_twice (hLI o ho)
  rw [h1, h2]
/-! ### depths and rooms -/
theorem depths_map (r : List Int) : ∀ (l : List Op) (d : Int), depthsL (l.map (relab r)) d = depthsL l d
  | [], d => rfl
  | o :: l, d => by
    rw [List.map_cons, depthsL, depthsL, relab_f0, after_relab, depths_map r l]
    unfold ahead
    rw [relab_f0]
theorem room_map (r : List Int) : ∀ (l : List Op) (ds : List D) (p : Int) (out : List D), roomL (l.map (relab r)) ds p out = roomL l ds p out
  | [], ds, p, out => by cases ds <;> rfl
  | o :: l, [], p, out => rfl
  | o :: l, d :: ds, p, out => by
    have e1 : roomP (relab r o) p = roomP o p := by
      unfold roomP
      rw [relab_f0]
      by_cases h : o.f0 = 24
      · rw [relab_f1 r (by unfold M6; omega) (by omega)]
      · rw [if_neg h, if_neg h]
    rw [List.map_cons, roomL, roomL, e1, room_map r l]
    unfold room1 room2
    rw [relab_f0, after_relab]
/-! ### code is the same as itself -/
theorem sameI_l (l : List D) (hl : l.length ≤ 1000000) (κ : Unit → Option Bool) : ∀ (n i k : Nat), l.length - i = n → i ≤ l.length → n < k → Gslices_Equal___int_int.l58 k l l (l.length : Int) (i : Int) κ = κ ()
  | 0, i, k, hn, hi, hk => by
    obtain ⟨k, rfl⟩ : ∃ m, k = m + 1 := ⟨k - 1, by omega⟩
    simp only [Gslices_Equal___int_int.l58]
    rw [decide_eq_false (by omega)]
    rfl
  | n + 1, i, k, hn, hi, hk => by
    obtain ⟨k, rfl⟩ : ∃ m, k = m + 1 := ⟨k - 1, by omega⟩
    have g0 : inB (i : Int) l.length = true := inB_pos (by omega)
    simp only [Gslices_Equal___int_int.l58, toNat_nat]
    rw [decide_eq_true (show (i : Int) < l.length by omega), cond_true, gd_pos g0, gd_pos g0, bne_self_eq_false, cond_false, w_succ i (by omega)]
    exact sameI_l l hl κ n (i + 1) k (by omega) (by omega) (by omega)
theorem sameI_self (l : List D) (hl : l.length ≤ 1000000) : Gslices_Equal___int_int.f l l = some true := by
  unfold Gslices_Equal___int_int.f
  rw [bne_self_eq_false, cond_false]
  exact sameI_l l hl _ l.length 0 NN (by omega) (by omega) (by have := le_NN; omega)
theorem sameO_l (l : List D) (hl : l.length ≤ 1000000) (κ : Unit → Option Bool) : ∀ (n i k : Nat), l.length - i = n → i ≤ l.length → n < k → Gslices_Equal___bluebell_api_Op_bluebell_api_Op.l58 k l l (l.length : Int) (i : Int) κ = κ ()
  | 0, i, k, hn, hi, hk => by
    obtain ⟨k, rfl⟩ : ∃ m, k = m + 1 := ⟨k - 1, by omega⟩
    simp only [Gslices_Equal___bluebell_api_Op_bluebell_api_Op.l58]
    rw [decide_eq_false (by omega)]
    rfl
  | n + 1, i, k, hn, hi, hk => by
    obtain ⟨k, rfl⟩ : ∃ m, k = m + 1 := ⟨k - 1, by omega⟩
    have g0 : inB (i : Int) l.length = true := inB_pos (by omega)
    simp only [Gslices_Equal___bluebell_api_Op_bluebell_api_Op.l58, toNat_nat]
    rw [decide_eq_true (show (i : Int) < l.length by omega), cond_true, gd_pos g0, gd_pos g0]
    simp only [beq_self_eq_true, Bool.and_self, Bool.not_true, cond_false, w_succ i (show (i : Int) + 1 ≤ 9223372036854775807 by omega)]
    exact sameO_l l hl κ n (i + 1) k (by omega) (by omega) (by omega)
theorem sameO_self (l : List D) (hl : l.length ≤ 1000000) : Gslices_Equal___bluebell_api_Op_bluebell_api_Op.f l l = some true := by
  unfold Gslices_Equal___bluebell_api_Op_bluebell_api_Op.f
  rw [bne_self_eq_false, cond_false]
  exact sameO_l l hl _ l.length 0 NN (by omega) (by omega) (by have := le_NN; omega)
theorem sameE_l (l : List D) (hl : l.length ≤ 1000000) (κ : Unit → Option Bool) : ∀ (n i k : Nat), l.length - i = n → i ≤ l.length → n < k → Gslices_Equal___bluebell_api_Entry_bluebell_api_Entry.l58 k l l (l.length : Int) (i : Int) κ = κ ()
  | 0, i, k, hn, hi, hk => by
    obtain ⟨k, rfl⟩ : ∃ m, k = m + 1 := ⟨k - 1, by omega⟩
    simp only [Gslices_Equal___bluebell_api_Entry_bluebell_api_Entry.l58]
    rw [decide_eq_false (by omega)]
    rfl
  | n + 1, i, k, hn, hi, hk => by
    obtain ⟨k, rfl⟩ : ∃ m, k = m + 1 := ⟨k - 1, by omega⟩
    have g0 : inB (i : Int) l.length = true := inB_pos (by omega)
    simp only [Gslices_Equal___bluebell_api_Entry_bluebell_api_Entry.l58, toNat_nat]
    rw [decide_eq_true (show (i : Int) < l.length by omega), cond_true, gd_pos g0, gd_pos g0]
    simp only [beq_self_eq_true, Bool.and_self, Bool.not_true, cond_false, w_succ i (show (i : Int) + 1 ≤ 9223372036854775807 by omega)]
    exact sameE_l l hl κ n (i + 1) k (by omega) (by omega) (by omega)
theorem sameE_self (l : List D) (hl : l.length ≤ 1000000) : Gslices_Equal___bluebell_api_Entry_bluebell_api_Entry.f l l = some true := by
  unfold Gslices_Equal___bluebell_api_Entry_bluebell_api_Entry.f
  rw [bne_self_eq_false, cond_false]
  exact sameE_l l hl _ l.length 0 NN (by omega) (by omega) (by have := le_NN; omega)
theorem sameD_one (d : D) (h : d.l2.length ≤ 1000000) : Gocode_Same_1.f d d = some true := by
  unfold Gocode_Same_1.f
  simp only [beq_self_eq_true, Bool.and_self, cond_true, sameI_self _ h, Option.bind_some]
theorem sameD_l (l : List D) (hl : l.length ≤ 1000000) (hw : ∀ d ∈ l, d.l2.length ≤ 1000000) (κ : Unit → Option Bool) : ∀ (n i k : Nat), l.length - i = n → i ≤ l.length → n < k → Gslices_EqualFunc___bluebell_api_Data___bluebell_api_Data_bluebell_api_Data_bluebell_api_Data_48.l58 k l () l (l.length : Int) (i : Int) κ = κ ()
  | 0, i, k, hn, hi, hk => by
    obtain ⟨k, rfl⟩ : ∃ m, k = m + 1 := ⟨k - 1, by omega⟩
    simp only [Gslices_EqualFunc___bluebell_api_Data___bluebell_api_Data_bluebell_api_Data_bluebell_api_Data_48.l58]
    rw [decide_eq_false (by omega)]
    rfl
  | n + 1, i, k, hn, hi, hk => by
    obtain ⟨k, rfl⟩ : ∃ m, k = m + 1 := ⟨k - 1, by omega⟩
    have hlt : i < l.length := by omega
    have g0 : inB (i : Int) l.length = true := inB_pos (by omega)
    simp only [Gslices_EqualFunc___bluebell_api_Data___bluebell_api_Data_bluebell_api_Data_bluebell_api_Data_48.l58, toNat_nat]
    rw [decide_eq_true (show (i : Int) < l.length by omega), cond_true, gd_pos g0, gd_pos g0, sameD_one _ (hw _ (rd_mem hlt)), Option.bind_some, Bool.not_true, cond_false, w_succ i (by omega)]
    exact sameD_l l hl hw κ n (i + 1) k (by omega) (by omega) (by omega)
theorem sameD_self (l : List D) (hl : l.length ≤ 1000000) (hw : ∀ d ∈ l, d.l2.length ≤ 1000000) : Gslices_EqualFunc___bluebell_api_Data___bluebell_api_Data_bluebell_api_Data_bluebell_api_Data_48.f l l () = some true := by
  unfold Gslices_EqualFunc___bluebell_api_Data___bluebell_api_Data_bluebell_api_Data_bluebell_api_Data_48.f
  rw [bne_self_eq_false, cond_false]
  exact sameD_l l hl hw _ l.length 0 NN (by omega) (by omega) (by have := le_NN; omega)
theorem same_self (c : D) (h : Fine c) : Gocode_Same.f c c = some true := by
  unfold Gocode_Same.f
  have h1 : Gslices_Equal___bluebell_api_Op_bluebell_api_Op.f (c.cell 2).list (c.cell 2).list = some true := sameO_self _ h.o
  have h2 : Gslices_Equal___bluebell_api_Entry_bluebell_api_Entry.f (c.cell 3).list (c.cell 3).list = some true := sameE_self _ h.g
  have h3 : Gslices_EqualFunc___bluebell_api_Data___bluebell_api_Data_bluebell_api_Data_bluebell_api_Data_48.f (c.cell 1).list (c.cell 1).list () = some true := sameD_self _ h.d fun d hd => (h.w d hd).2
  simp only [beq_self_eq_true, Bool.and_self, cond_true, h1, h2, h3, Option.bind_some]
/-! ### the law -/
theorem again_pure (c : D) (hw : Wide c) : Gw06_OcodeAgain.f c = some true := by
  obtain ⟨b, hb, hf⟩ := heavy_f c hw
  unfold Gw06_OcodeAgain.f
  rw [hb, Option.bind_some]
  cases b with
  | true => rw [cond_true, awake_f]; rfl
  | false =>
    obtain ⟨hf, -⟩ := hf rfl
    rw [cond_false, renumber_f c hf, Option.bind_some]
    by_cases g : checkI c = 0
    · have hv := check_ok hf g
      obtain ⟨hv2, -⟩ := ren_valid hv
      have g2 := check_zero hv2
      have e1 : renR c = (renC c, 0) := by unfold renR; rw [if_pos g]
      have e2 : renR (ren c) = (renC c, 0) := by unfold renR; rw [if_pos g2, ren_twice hv]
      have q2 := renumber_f (ren c) hv2.fine
      have d1 : depthsR (ren c) = depthsR c := by
        unfold depthsR
        rw [if_pos g, if_pos g2]
        show (depthsL (c.ops.map (relab (labs c))) 0, (0 : Int)) = _
        rw [depths_map]
      have r1 : roomR (ren c) = roomR c := by
        unfold roomR
        rw [if_pos g, if_pos g2]
        show (roomL (c.ops.map (relab (labs c))) (depthsL (c.ops.map (relab (labs c))) 0) 0 (List.replicate c.procs.toNat (.i 0)), (0 : Int)) = _
        rw [depths_map, room_map]
      have q3 := depths_f (ren c) hv2.fine
      have q4 := room_f (ren c) hv2.fine
      have q5 := same_self (ren c) hv2.fine
      have e3 : (depthsR c).2 = 0 := by unfold depthsR; rw [if_pos g]
      have e4 : (roomR c).2 = 0 := by unfold roomR; rw [if_pos g]
      have e5 : (renC c).2.2.1.length = c.ops.length := by show (c.ops.map (relab (labs c))).length = _; simp
      have e5 : (renC c).2.2.1.length = (c.cell 2).list.length := e5
      rw [e2] at q2
      rw [d1] at q3
      rw [r1] at q4
      simp only [ren, toD] at q2 q3 q4 q5
      rw [e1]
      simp only [bne_self_eq_false, cond_false, q2, Option.bind_some, depths_f c hf, q3, room_f c hf, q4, beq_self_eq_true, cond_true, q5, e3, e4, Bool.and_self, eqints_self _ (depthsR_len hf), eqints_self _ (roomR_len hf), e5, awake_f]
    · have e1 : renR c = (noC, checkI c) := by unfold renR; rw [if_neg g]
      rw [e1, show ((noC, checkI c).2 != 0) = true from bne_iff_ne.2 g, cond_true, awake_f]; rfl
end Go.Pv
