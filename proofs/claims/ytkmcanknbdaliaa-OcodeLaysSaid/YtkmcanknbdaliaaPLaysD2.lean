/- What the functions answer, in plain words: the plain laws. -/
import Derived.Test.YtkmcanknbdaliaaPLaysD1
import Derived.Test.YtkmcanknbdaliaaPLaysB
set_option linter.unusedVariables false
set_option linter.unusedSimpArgs false
namespace Go.Pv
set_option maxRecDepth 20000
set_option linter.unusedSimpArgs false
theorem valid_procs {c : D} (hv : Valid c) : 0 ≤ c.procs := by
  have h := hv.coded
  unfold codedB at h
  simp only [Bool.and_eq_true, decide_eq_true_eq] at h
  exact h.1.1.1.1.1.1.2
structure Pc (c : D) (i : Nat) : Prop where
  b0 : 0 ≤ pcn c.ops i
  pos : 0 < pcn c.ops (i + 1)
  le : pcn c.ops (i + 1) ≤ c.procs
  step : pcn c.ops (i + 1) = pcn c.ops i + (if (opAt c.ops i).f0 = 24 then 1 else 0)
  num : (opAt c.ops i).f0 = 24 → (opAt c.ops i).f1 = pcn c.ops i + 1
theorem pc1 {c : D} (hv : Valid c) {i : Nat} (hi : i < c.ops.length) : Pc c i := by
  have hsc := valid_scan hv
  have hfin : c.procs = pcn c.ops c.ops.length := scan_fin c.ops.length 0 0 (by omega) (by omega) (show scanL (c.ops.drop 0) (pcn c.ops 0) 0 = _ from hsc)
  have hmono := pcn_mono c.ops (i + 1) (c.ops.length - (i + 1))
  rw [show i + 1 + (c.ops.length - (i + 1)) = c.ops.length by omega] at hmono
  exact ⟨(pcn_bd c.ops i).1, pcn_pos (first_enter hv.st.ord (by omega)) (i + 1) (by omega), by omega, rfl, fun e => scan_enters c.ops.length 0 0 (by omega) (show scanL (c.ops.drop 0) (pcn c.ops 0) 0 = _ from hsc) i (by omega) hi e⟩
theorem depths_at {l : List Op} {DD : List D} {i : Nat} {d : Int} (hi : i < l.length) (hD : DD.length = l.length) (h : DD.drop i = depthsL (l.drop i) d) : rd DD i = .i (ahead (opAt l i) d) ∧ DD.drop (i + 1) = depthsL (l.drop (i + 1)) (afterI (opAt l i) d (kindAt (opAt l i).f0)) := by
  rw [drop_rd DD i (by omega), drop_rd l i hi, depthsL] at h
  exact List.cons.inj h
theorem proom_l (c : D) (hv : Valid c) (DD : List D) (hD : DD.length = c.ops.length) (P : Nat) (hP : c.procs = (P : Int)) (κ : List D → Option (List D × Int)) :
    ∀ (n i k : Nat) (d : Int) (out : List D), c.ops.length - i = n → i ≤ c.ops.length → n < k → out.length = P → DD.drop i = depthsL (c.ops.drop i) d → 0 ≤ d → d ≤ 4000 → stackGo c.ops (placR c).1 i d = true →
      Gocode_Room.l1018 k DD kindTab out (pcn c.ops i) c.ops (c.ops.length : Int) (i : Int) κ = κ (roomL (c.ops.drop i) (DD.drop i) (pcn c.ops i) out)
  | 0, i, k, d, out, hn, hi, hk, ho, hd, h0, h1, hs => by
    obtain ⟨k, rfl⟩ : ∃ m, k = m + 1 := ⟨k - 1, by omega⟩
    simp only [Gocode_Room.l1018]
    rw [decide_eq_false (by omega), List.drop_eq_nil_of_le (show c.ops.length ≤ i by omega), roomL]
    rfl
  | n + 1, i, k, d, out, hn, hi, hk, ho, hd, h0, h1, hs => by
    obtain ⟨k, rfl⟩ : ∃ m, k = m + 1 := ⟨k - 1, by omega⟩
    have hlt : i < c.ops.length := by omega
    have o1 := op1 hv hlt
    have hlim := hv.lim
    have pc := pc1 hv hlt
    obtain ⟨a1, a2, a3⟩ := stackGo_next hlt hs
    obtain ⟨hd1, hd2⟩ := depths_at hlt hD hd
    have hdi : (rd DD i).int = ahead (opAt c.ops i) d := by rw [hd1]; rfl
    have hA : afterI (opAt c.ops i) (ahead (opAt c.ops i) d) (kindAt (opAt c.ops i).f0) = afterI (opAt c.ops i) d (kindAt (opAt c.ops i).f0) := after_ahead _ _ _
    have hqs : Small (ahead (opAt c.ops i) d) := by unfold Small ahead; split <;> omega
    have ih := fun (out : List D) (ho : out.length = P) => proom_l c hv DD hD P hP κ n (i + 1) k _ out (by omega) (by omega) (by omega) ho hd2 (by omega) a2 a3
    have pc2 := pc.pos
    have pc3 := pc.le
    have w1 : ∀ p : Int, p = pcn c.ops (i + 1) → IntKind.i64.wrap (p - 1) = p - 1 := fun p hp => w64 _ (by omega)
    have gp : ∀ (p : Int) (out : List D), p = pcn c.ops (i + 1) → out.length = P → inB (p - 1) out.length = true ∧ Nat.blt (p - 1).toNat out.length = true := fun p out hp ho => ⟨inB_pos (by omega), blt_pos (by omega)⟩
    have gd1 : inB (i : Int) DD.length = true := inB_pos (by omega)
    have gd2 : Nat.blt i DD.length = true := blt_pos (by omega)
    have g2 : (inB ((rd c.ops i).cell 0).int 31 && inB ((rd c.ops i).cell 0).int kindTab.length) = true := by
      have b := o1.k0
      have e := o1.k1
      rw [kindTab_len, show inB ((rd c.ops i).cell 0).int 31 = true from inB_pos ⟨b, by exact e⟩]; rfl
    have g3 : Nat.blt ((rd c.ops i).cell 0).int.toNat kindTab.length = true := by
      have b := o1.k0
      have e := o1.k1
      rw [kindTab_len]
      exact blt_pos (by have : (opAt c.ops i).f0.toNat < 31 := by omega
                        exact this)
    have e3 : Gocode_after.f (rd c.ops i) (rd DD i).int (rd kindTab ((rd c.ops i).cell 0).int.toNat) = some (afterI (opAt c.ops i) d (kindAt (opAt c.ops i).f0)) := by
      rw [hdi, ← hA]
      exact after_f _ _ _ o1.s1 o1.s2 hqs o1.k2 o1.k3
    have key : ∀ (p : Int) (o2 : List D), p = pcn c.ops (i + 1) → o2.length = P → Gocode_Room.p130355 DD kindTab o2 p (i : Int) (rd c.ops i) c.ops (c.ops.length : Int) (i : Int) (fun y4 => Gocode_Room.l1018 k y4.1 y4.2.1 y4.2.2.1 y4.2.2.2.1 y4.2.2.2.2.1 y4.2.2.2.2.2.1 (IntKind.i64.wrap (y4.2.2.2.2.2.2 + 1)) κ)
        = κ (roomL (c.ops.drop (i + 1)) (DD.drop (i + 1)) p (room2 (opAt c.ops i) (ahead (opAt c.ops i) d) p o2)) := by
      intro p o2 hp ho2
      obtain ⟨q1, q2⟩ := gp p o2 hp ho2
      unfold Gocode_Room.p130355
      simp only [w1 p hp, toNat_nat, w_succ i (show (i : Int) + 1 ≤ 9223372036854775807 by omega)]
      rw [gd_pos q1, gd_pos q2, gd_pos gd1, gd_pos gd2, gd_pos g2, gd_pos g3, e3, Option.bind_some, gd_pos q1, gd_pos q2, hp, ih _ (by simp [ho2])]
      unfold room2 mx
      rw [hA]
    rw [drop_rd c.ops i hlt, drop_rd DD i (by omega), roomL, hdi]
    simp only [Gocode_Room.l1018, toNat_nat]
    rw [decide_eq_true (show (i : Int) < c.ops.length by omega), cond_true, gd_pos (inB_pos (by omega))]
    by_cases e : (opAt c.ops i).f0 = 24
    · have hp : (opAt c.ops i).f1 = pcn c.ops (i + 1) := by rw [pc.num e, pc.step, if_pos e]
      have k1 := key _ out hp ho
      have hrp : roomP (opAt c.ops i) (pcn c.ops i) = (opAt c.ops i).f1 := by unfold roomP; rw [if_pos e]
      have hr1 : ∀ p, room1 (opAt c.ops i) (ahead (opAt c.ops i) d) p out = out := fun p => by unfold room1; rw [if_pos e]
      rw [show (((rd c.ops i).cell 0).int == 24) = true from beq_iff_eq.2 e, cond_true, show roomP (rd c.ops i) (pcn c.ops i) = (opAt c.ops i).f1 from hrp, show room1 (rd c.ops i) (ahead (opAt c.ops i) d) (opAt c.ops i).f1 out = out from hr1 _]
      exact k1
    · have hp : pcn c.ops i = pcn c.ops (i + 1) := by rw [pc.step, if_neg e, Int.add_zero]
      obtain ⟨q1, q2⟩ := gp (pcn c.ops i) out hp ho
      have hrp : roomP (opAt c.ops i) (pcn c.ops i) = pcn c.ops i := by unfold roomP; rw [if_neg e]
      rw [show (((rd c.ops i).cell 0).int == 24) = false from beq_eq_false_iff_ne.2 e, cond_false, show roomP (rd c.ops i) (pcn c.ops i) = pcn c.ops i from hrp]
      simp only [w1 _ hp]
      rw [gd_pos q1, gd_pos q2, gd_pos gd1, gd_pos gd2, gd_pos q1, gd_pos q2, hdi]
      have k1 := key (pcn c.ops i) (room1 (opAt c.ops i) (ahead (opAt c.ops i) d) (pcn c.ops i) out) hp (by rw [room1_len, ho])
      have hr1 : room1 (opAt c.ops i) (ahead (opAt c.ops i) d) (pcn c.ops i) out = out.set (pcn c.ops i - 1).toNat (.i (mx (ri out (pcn c.ops i - 1)) (ahead (opAt c.ops i) d))) := by unfold room1; rw [if_neg e]
      rw [hr1] at k1
      unfold mx at k1
      rw [show room1 (rd c.ops i) (ahead (opAt c.ops i) d) (pcn c.ops i) out = _ from hr1]
      unfold mx
      exact k1
theorem room_f (c : D) (hf : Fine c) : Gocode_Room.f c = some (roomR c) := by
  unfold Gocode_Room.f
  rw [depths_f c hf, Option.bind_some]
  unfold depthsR roomR
  by_cases g : checkI c = 0
  · have hv := check_ok hf g
    have h0 := valid_procs hv
    have hlim := hv.lim
    obtain ⟨P, hP⟩ : ∃ P : Nat, c.procs = (P : Int) := ⟨c.procs.toNat, by omega⟩
    rw [if_pos g, if_pos g, bne0 rfl, cond_false, kinds_f, Option.bind_some, gd_pos (by rw [kindTab_len]; rfl)]
    have hP2 : (c.cell 4).int = (P : Int) := hP
    rw [hP2, hP, toNat_nat, gd_pos (by rw [decide_eq_true (by omega), decide_eq_true (by unfold lim; omega)]; rfl)]
    have q := proom_l c hv (depthsL c.ops 0) (depthsL_len _ _) P hP (fun y6 => some (y6, 0)) c.ops.length 0 NN 0 (List.replicate P (.i 0)) (by omega) (by omega) (by have := le_NN; omega) (by simp) rfl (by omega) (by omega) hv.stacked
    exact q
  · rw [if_neg g, if_neg g]
    simp only [bne_iff_ne.2 g, cond_true]
theorem rroom_l (c : D) (hv : Valid c) (DD : List D) (hD : DD.length = c.ops.length) (P : Nat) (hP : c.procs = (P : Int)) (κ : List D → Option (List D × Int)) :
    ∀ (n i k : Nat) (d : Int) (out : List D), c.ops.length - i = n → i ≤ c.ops.length → n < k → (out.length : Int) = pcn c.ops i → DD.drop i = depthsL (c.ops.drop i) d → 0 ≤ d → d ≤ 4000 → stackGo c.ops (placR c).1 i d = true →
      ∃ R, Gr06_Room.l250 k c DD out (i : Int) κ = κ R ∧ (R.length : Int) = pcn c.ops c.ops.length ∧ roomL (c.ops.drop i) (DD.drop i) (pcn c.ops i) (out ++ List.replicate (P - out.length) (.i 0)) = R ++ List.replicate (P - R.length) (.i 0)
  | 0, i, k, d, out, hn, hi, hk, ho, hd, h0, h1, hs => by
    obtain ⟨k, rfl⟩ : ∃ m, k = m + 1 := ⟨k - 1, by omega⟩
    obtain rfl : i = c.ops.length := by omega
    refine ⟨out, ?_, ho, ?_⟩
    · simp only [Gr06_Room.l250]
      rw [decide_eq_false (by simp only [D.ops]; omega)]
      rfl
    · rw [List.drop_length, roomL]
  | n + 1, i, k, d, out, hn, hi, hk, ho, hd, h0, h1, hs => by
    obtain ⟨k, rfl⟩ : ∃ m, k = m + 1 := ⟨k - 1, by omega⟩
    have hlt : i < c.ops.length := by omega
    have o1 := op1 hv hlt
    have hlim := hv.lim
    have pc := pc1 hv hlt
    obtain ⟨a1, a2, a3⟩ := stackGo_next hlt hs
    obtain ⟨hd1, hd2⟩ := depths_at hlt hD hd
    have hdi : (rd DD i).int = ahead (opAt c.ops i) d := by rw [hd1]; rfl
    have hA : afterI (opAt c.ops i) (ahead (opAt c.ops i) d) (kindAt (opAt c.ops i).f0) = afterI (opAt c.ops i) d (kindAt (opAt c.ops i).f0) := after_ahead _ _ _
    have hqs : Small (ahead (opAt c.ops i) d) := by unfold Small ahead; split <;> omega
    have ih := fun (out : List D) (ho : (out.length : Int) = pcn c.ops (i + 1)) => rroom_l c hv DD hD P hP κ n (i + 1) k _ out (by omega) (by omega) (by omega) ho hd2 (by omega) a2 a3
    have g0 : inB (i : Int) c.ops.length = true := inB_pos (by omega)
    have gd1 : inB (i : Int) DD.length = true := inB_pos (by omega)
    have gd2 : Nat.blt i DD.length = true := blt_pos (by omega)
    have e3 : Gr06_After.f (rd (c.cell 2).list i) (rd DD i).int = some (afterI (opAt c.ops i) d (kindAt (opAt c.ops i).f0)) := by
      rw [hdi, ← hA]
      exact after_ref o1.op _ o1.s1 o1.s2 hqs
    have key : ∀ o2 : List D, (o2.length : Int) = pcn c.ops (i + 1) → Gr06_Room.p8009 c DD o2 (i : Int) (fun y3 => Gr06_Room.l250 k y3.1 y3.2.1 y3.2.2.1 (IntKind.i64.wrap (y3.2.2.2 + 1)) κ)
        = Gr06_Room.l250 k c DD (o2.set (pcn c.ops (i + 1) - 1).toNat (.i (mx (mx (ri o2 (pcn c.ops (i + 1) - 1)) (ahead (opAt c.ops i) d)) (afterI (opAt c.ops i) d (kindAt (opAt c.ops i).f0))))) ((i + 1 : Nat) : Int) κ := by
      intro o2 ho2
      have pos := pc.pos
      have w1 : IntKind.i64.wrap ((o2.length : Int) - 1) = pcn c.ops (i + 1) - 1 := by rw [w64 _ (by have := pc.le; omega)]; omega
      have q1 : inB (pcn c.ops (i + 1) - 1) o2.length = true := inB_pos (by omega)
      have q2 : Nat.blt (pcn c.ops (i + 1) - 1).toNat o2.length = true := blt_pos (by omega)
      unfold Gr06_Room.p8009
      simp only [w1, toNat_nat, w_succ i (show (i : Int) + 1 ≤ 9223372036854775807 by omega)]
      rw [gd_pos q1, gd_pos q2, gd_pos gd1, gd_pos gd2, gd_pos g0, gd_pos gd1, gd_pos gd2, e3, Option.bind_some, gd_pos q1, gd_pos q2, hdi]
      rfl
    rw [drop_rd c.ops i hlt, drop_rd DD i (by omega), roomL, hdi]
    simp only [Gr06_Room.l250, toNat_nat]
    rw [decide_eq_true (show (i : Int) < (c.cell 2).list.length by simp only [D.ops] at hlt; omega), cond_true, gd_pos g0]
    by_cases e : (opAt c.ops i).f0 = 24
    · have hp : (opAt c.ops i).f1 = pcn c.ops (i + 1) := by rw [pc.num e, pc.step, if_pos e]
      have hpi : pcn c.ops (i + 1) = pcn c.ops i + 1 := by rw [pc.step, if_pos e]
      have hle := pc.le
      obtain ⟨m, hm⟩ : ∃ m, P - out.length = m + 1 := ⟨P - out.length - 1, by omega⟩
      have hah : ahead (opAt c.ops i) d = 0 := by unfold ahead; rw [if_pos e]
      have gl : Nat.ble (out.length + ([.i 0] : List D).length) lim = true := ble_pos (by simp only [List.length_singleton]; unfold lim; omega)
      have hix : (pcn c.ops (i + 1) - 1).toNat = out.length := by omega
      rw [show (((rd (c.cell 2).list i).cell 0).int == 24) = true from beq_iff_eq.2 e, cond_true, gd_pos gl, key _ (by simp; omega), hix, set_end, rd_end _ _ _ _ hix, hah]
      obtain ⟨R, q1, q2, q3⟩ := ih (out ++ [.i (mx (mx 0 0) (afterI (opAt c.ops i) d (kindAt (opAt c.ops i).f0)))]) (by simp; omega)
      refine ⟨R, q1, q2, ?_⟩
      rw [← q3]
      have hrp : roomP (rd c.ops i) (pcn c.ops i) = pcn c.ops (i + 1) := by
        unfold roomP
        rw [show D.f0 (rd c.ops i) = 24 from e, if_pos rfl]
        exact hp
      have hr1 : room1 (rd c.ops i) 0 (pcn c.ops (i + 1)) (out ++ List.replicate (P - out.length) (.i 0)) = out ++ (.i 0) :: List.replicate m (.i 0) := by
        unfold room1
        rw [show D.f0 (rd c.ops i) = 24 from e, if_pos rfl, hm]
        rfl
      have hA0 : afterI (rd c.ops i) 0 (kindAt (D.f0 (rd c.ops i))) = afterI (opAt c.ops i) d (kindAt (opAt c.ops i).f0) := by rw [← hA, hah]
      rw [hrp, hr1]
      unfold room2
      rw [hix, set_end, rd_end _ _ _ _ hix, hA0]
      have hm2 : P - (out ++ [D.i (mx (mx 0 0) (afterI (opAt c.ops i) d (kindAt (opAt c.ops i).f0)))]).length = m := by simp; omega
      rw [hm2, List.append_assoc]
      rfl
    · have hp : pcn c.ops i = pcn c.ops (i + 1) := by rw [pc.step, if_neg e, Int.add_zero]
      have hpos := pc.pos
      rw [show (((rd (c.cell 2).list i).cell 0).int == 24) = false from beq_eq_false_iff_ne.2 e, cond_false, key _ (by omega)]
      obtain ⟨R, q1, q2, q3⟩ := ih (out.set (pcn c.ops (i + 1) - 1).toNat (.i (mx (mx (ri out (pcn c.ops (i + 1) - 1)) (ahead (opAt c.ops i) d)) (afterI (opAt c.ops i) d (kindAt (opAt c.ops i).f0))))) (by rw [List.length_set]; omega)
      refine ⟨R, q1, q2, ?_⟩
      rw [← q3]
      have hrp : roomP (rd c.ops i) (pcn c.ops i) = pcn c.ops (i + 1) := by
        unfold roomP
        rw [if_neg (show ¬ D.f0 (rd c.ops i) = 24 from e), hp]
      rw [hrp]
      unfold room2 room1
      rw [if_neg (show ¬ D.f0 (rd c.ops i) = 24 from e), List.length_set]
      have hix : (pcn c.ops (i + 1) - 1).toNat < out.length := by omega
      have hAA : afterI (rd c.ops i) (ahead (opAt c.ops i) d) (kindAt (D.f0 (rd c.ops i))) = afterI (opAt c.ops i) d (kindAt (opAt c.ops i).f0) := hA
      rw [List.set_append_left _ _ hix, List.set_append_left _ _ (by rw [List.length_set]; exact hix), rd_left _ _ _ hix, rd_left _ _ _ (by rw [List.length_set]; exact hix), rd_put_same _ _ _ _ rfl hix, List.set_set, hAA]
theorem rroom_ref (c : D) (hf : Fine c) : Gr06_Room.f c = some (roomR c) := by
  unfold Gr06_Room.f
  rw [rdepths_ref c hf, Option.bind_some]
  unfold depthsR roomR
  by_cases g : checkI c = 0
  · have hv := check_ok hf g
    have h0 := valid_procs hv
    have hlim := hv.lim
    obtain ⟨P, hP⟩ : ∃ P : Nat, c.procs = (P : Int) := ⟨c.procs.toNat, by omega⟩
    rw [if_pos g, if_pos g, bne0 rfl, cond_false]
    obtain ⟨R, q1, q2, q3⟩ := rroom_l c hv (depthsL c.ops 0) (depthsL_len _ _) P hP (fun y5 => some (y5, 0)) c.ops.length 0 NN 0 [] (by omega) (by omega) (by have := le_NN; omega) rfl rfl (by omega) (by omega) hv.stacked
    have hfin : c.procs = pcn c.ops c.ops.length := scan_fin c.ops.length 0 0 (by omega) (by omega) (show scanL (c.ops.drop 0) (pcn c.ops 0) 0 = _ from valid_scan hv)
    have hz : P - R.length = 0 := by omega
    rw [hz, List.replicate_zero, List.append_nil] at q3
    rw [hP, Int.toNat_natCast]
    refine q1.trans ?_
    rw [← q3]
    rfl
  · rw [if_neg g, if_neg g]
    simp only [bne_iff_ne.2 g, cond_true]
/-! ### counts of labels -/
/-- One more jump to a label. -/
def jumpTo (xs : List D) (n : Int) : List D := if n > 0 then xs.set (n - 1).toNat (.i (ri xs (n - 1) + 1)) else xs
def jumpsL : List Op → List D → List D
  | [], xs => xs
  | o :: l, xs => jumpsL l (jumpTo xs (namedI o))
def jumpsR (c : D) : List D × Int := if checkI c = 0 then (jumpsL c.ops (List.replicate c.labels.toNat (.i 0)), 0) else ([], checkI c)
theorem jumpTo_len (xs : List D) (n : Int) : (jumpTo xs n).length = xs.length := by unfold jumpTo; split <;> simp
theorem jumpsL_len : ∀ (l : List Op) (xs : List D), (jumpsL l xs).length = xs.length
  | [], _ => rfl
  | o :: l, xs => by rw [jumpsL, jumpsL_len l, jumpTo_len]
theorem rd_out : ∀ (xs : List D) (j : Nat), xs.length ≤ j → rd xs j = .i 0
  | [], _, _ => rfl
  | x :: xs, 0, h => absurd h (by simp)
  | x :: xs, j + 1, h => rd_out xs j (by simpa using h)
theorem rd_all {xs : List D} {j : Int} {P : Int → Prop} (h : ∀ x ∈ xs, P x.int) (h0 : P 0) : P (ri xs j) := by
  unfold ri
  by_cases g : j.toNat < xs.length
  · exact h _ (rd_mem g)
  · rw [rd_out _ _ (by omega)]
    exact h0
theorem jumpTo_bd {xs : List D} {n B : Int} (h : ∀ x ∈ xs, 0 ≤ x.int ∧ x.int ≤ B) (hB : 0 ≤ B) : ∀ x ∈ jumpTo xs n, 0 ≤ x.int ∧ x.int ≤ B + 1 := by
  intro x hx
  unfold jumpTo at hx
  by_cases g : n > 0
  · rw [if_pos g] at hx
    rcases List.mem_or_eq_of_mem_set hx with h1 | h1
    · have := h x h1; omega
    · have := rd_all (xs := xs) (j := n - 1) (P := fun v => 0 ≤ v ∧ v ≤ B) h ⟨Int.le_refl 0, hB⟩
      rw [h1]
      simp only [D.int] at this ⊢
      omega
  · rw [if_neg g] at hx
    have := h x hx
    omega
theorem pjumps_l (l : List Op) (hl : l.length ≤ 1000000) (L : Nat) (hL : L ≤ 1000000) (hn : ∀ o ∈ l, namedI o ≤ (L : Int)) (κ : List D → Option (List D × Int)) : ∀ (n i k : Nat) (xs : List D), l.length - i = n → i ≤ l.length → n < k → xs.length = L → (∀ x ∈ xs, 0 ≤ x.int ∧ x.int ≤ (i : Int)) →
    Gocode_Jumps.l250 k xs l (l.length : Int) (i : Int) κ = κ (jumpsL (l.drop i) xs)
  | 0, i, k, xs, hd, hi, hk, hx, hb => by
    obtain ⟨k, rfl⟩ : ∃ m, k = m + 1 := ⟨k - 1, by omega⟩
    obtain rfl : i = l.length := by omega
    simp only [Gocode_Jumps.l250]
    rw [decide_eq_false (by omega), List.drop_length, jumpsL]
    rfl
  | n + 1, i, k, xs, hd, hi, hk, hx, hb => by
    obtain ⟨k, rfl⟩ : ∃ m, k = m + 1 := ⟨k - 1, by omega⟩
    have hlt : i < l.length := by omega
    have hm := hn (rd l i) (rd_mem hlt)
    rw [drop_rd l i hlt, jumpsL]
    simp only [Gocode_Jumps.l250, toNat_nat]
    rw [decide_eq_true (show (i : Int) < l.length by omega), cond_true, gd_pos (inB_pos (by omega)), named_f, Option.bind_some, w_succ i (by omega)]
    generalize namedI (rd l i) = m at *
    have hbd := jumpTo_bd (n := m) hb (by omega)
    have hbd' : ∀ x ∈ jumpTo xs m, 0 ≤ x.int ∧ x.int ≤ ((i + 1 : Nat) : Int) := fun x h => by have := hbd x h; omega
    have hr : 0 ≤ ri xs (m - 1) ∧ ri xs (m - 1) ≤ (i : Int) := rd_all (xs := xs) (j := m - 1) (P := fun v => 0 ≤ v ∧ v ≤ (i : Int)) hb ⟨Int.le_refl 0, by omega⟩
    by_cases g : m > 0
    · have q1 : inB (m - 1) xs.length = true := inB_pos (by omega)
      have q2 : Nat.blt (m - 1).toNat xs.length = true := blt_pos (by omega)
      have w2 : IntKind.i64.wrap ((rd xs (m - 1).toNat).int + 1) = ri xs (m - 1) + 1 := w64 _ (by
        have h1 : 0 ≤ (rd xs (m - 1).toNat).int := hr.1
        have h2 : (rd xs (m - 1).toNat).int ≤ (i : Int) := hr.2
        omega)
      rw [decide_eq_true g, cond_true, w64 (m - 1) (by omega), gd_pos q1, gd_pos q2, gd_pos q1, gd_pos q2, w2]
      have ej : xs.set (m - 1).toNat (.i (ri xs (m - 1) + 1)) = jumpTo xs m := by unfold jumpTo; rw [if_pos g]
      rw [ej]
      exact pjumps_l l hl L hL hn κ n (i + 1) k _ (by omega) (by omega) (by omega) (by rw [jumpTo_len, hx]) hbd'
    · rw [decide_eq_false g, cond_false]
      have ej : jumpTo xs m = xs := by unfold jumpTo; rw [if_neg g]
      rw [ej] at hbd' ⊢
      exact pjumps_l l hl L hL hn κ n (i + 1) k xs (by omega) (by omega) (by omega) hx hbd'
theorem named_all {c : D} (h : Valid c) : ∀ o ∈ c.ops, namedI o ≤ c.labels := fun o ho => named_ok h.st.l (List.all_eq_true.1 h.st.ops o ho)
theorem jumps_f (c : D) (h : Fine c) : Gocode_Jumps.f c = some (jumpsR c) := by
  unfold Gocode_Jumps.f jumpsR
  rw [check_f c h, Option.bind_some]
  by_cases g : checkI c = 0
  · have hv := check_ok h g
    have h0 := hv.st.l
    have hlim := hv.lim
    have hg : (decide (0 ≤ (c.cell 5).int) && decide ((c.cell 5).int ≤ (lim : Int))) = true := by
      rw [decide_eq_true (show 0 ≤ (c.cell 5).int from h0), decide_eq_true (show (c.cell 5).int ≤ (lim : Int) from by simp only [D.labels] at hlim; unfold lim; omega)]; rfl
    rw [bne0 g, cond_false, if_pos g, gd_pos hg]
    have q := pjumps_l c.ops h.o c.labels.toNat (by omega) (fun o ho => by have := named_all hv o ho; omega) (fun y3 => some (y3, 0)) c.ops.length 0 NN (List.replicate c.labels.toNat (.i 0)) (by omega) (by omega) (by have := le_NN; omega) (by simp) (fun x hx => by have := List.eq_of_mem_replicate hx; rw [this]; simp only [D.int]; omega)
    exact q
  · rw [bne_iff_ne.2 g, cond_true, if_neg g]
theorem rjumps_l (c : D) (hl : c.ops.length ≤ 1000000) (L : Nat) (hL : L ≤ 1000000) (hn : ∀ o ∈ c.ops, namedI o ≤ (L : Int)) (κ : List D → Option (List D × Int)) : ∀ (n i k : Nat) (xs : List D), c.ops.length - i = n → i ≤ c.ops.length → n < k → xs.length = L → (∀ x ∈ xs, 0 ≤ x.int ∧ x.int ≤ (i : Int)) →
    Gr06_Jumps.l250 k c xs (i : Int) κ = κ (jumpsL (c.ops.drop i) xs)
  | 0, i, k, xs, hd, hi, hk, hx, hb => by
    obtain ⟨k, rfl⟩ : ∃ m, k = m + 1 := ⟨k - 1, by omega⟩
    obtain rfl : i = c.ops.length := by omega
    simp only [Gr06_Jumps.l250]
    rw [decide_eq_false (by simp only [D.ops]; omega), List.drop_length, jumpsL]
    rfl
  | n + 1, i, k, xs, hd, hi, hk, hx, hb => by
    obtain ⟨k, rfl⟩ : ∃ m, k = m + 1 := ⟨k - 1, by omega⟩
    have hlt : i < c.ops.length := by omega
    have hm := hn (rd c.ops i) (rd_mem hlt)
    have g0 : inB (i : Int) c.ops.length = true := inB_pos (by omega)
    rw [drop_rd c.ops i hlt, jumpsL]
    simp only [Gr06_Jumps.l250, toNat_nat]
    rw [decide_eq_true (show (i : Int) < (c.cell 2).list.length by simp only [D.ops] at hlt; omega), cond_true, gd_pos g0, label_f, Option.bind_some, w_succ i (by omega)]
    simp only [D.ops] at hm ⊢
    generalize namedI (rd (c.cell 2).list i) = m at *
    have hbd := jumpTo_bd (n := m) hb (by omega)
    have hbd' : ∀ x ∈ jumpTo xs m, 0 ≤ x.int ∧ x.int ≤ ((i + 1 : Nat) : Int) := fun x h => by have := hbd x h; omega
    have hr : 0 ≤ ri xs (m - 1) ∧ ri xs (m - 1) ≤ (i : Int) := rd_all (xs := xs) (j := m - 1) (P := fun v => 0 ≤ v ∧ v ≤ (i : Int)) hb ⟨Int.le_refl 0, by omega⟩
    by_cases g : m > 0
    · have q1 : inB (m - 1) xs.length = true := inB_pos (by omega)
      have q2 : Nat.blt (m - 1).toNat xs.length = true := blt_pos (by omega)
      have w2 : IntKind.i64.wrap ((rd xs (m - 1).toNat).int + 1) = ri xs (m - 1) + 1 := w64 _ (by
        have h1 : 0 ≤ (rd xs (m - 1).toNat).int := hr.1
        have h2 : (rd xs (m - 1).toNat).int ≤ (i : Int) := hr.2
        omega)
      rw [decide_eq_true g, cond_true, w64 (m - 1) (by omega), gd_pos q1, gd_pos q2, gd_pos q1, gd_pos q2, w2]
      have ej : xs.set (m - 1).toNat (.i (ri xs (m - 1) + 1)) = jumpTo xs m := by unfold jumpTo; rw [if_pos g]
      rw [ej]
      exact rjumps_l c hl L hL hn κ n (i + 1) k _ (by omega) (by omega) (by omega) (by rw [jumpTo_len, hx]) hbd'
    · rw [decide_eq_false g, cond_false]
      have ej : jumpTo xs m = xs := by unfold jumpTo; rw [if_neg g]
      rw [ej] at hbd' ⊢
      exact rjumps_l c hl L hL hn κ n (i + 1) k xs (by omega) (by omega) (by omega) hx hbd'
theorem rjumps_ref (c : D) (h : Fine c) : Gr06_Jumps.f c = some (jumpsR c) := by
  unfold Gr06_Jumps.f jumpsR
  rw [check_ref c h, Option.bind_some]
  by_cases g : checkI c = 0
  · have hv := check_ok h g
    have h0 := hv.st.l
    have hlim := hv.lim
    have hg : (decide (0 ≤ (c.cell 5).int) && decide ((c.cell 5).int ≤ (lim : Int))) = true := by
      rw [decide_eq_true (show 0 ≤ (c.cell 5).int from h0), decide_eq_true (show (c.cell 5).int ≤ (lim : Int) from by simp only [D.labels] at hlim; unfold lim; omega)]; rfl
    rw [bne0 g, cond_false, if_pos g, gd_pos hg]
    have q := rjumps_l c h.o c.labels.toNat (by omega) (fun o ho => by have := named_all hv o ho; omega) (fun y3 => some (y3, 0)) c.ops.length 0 NN (List.replicate c.labels.toNat (.i 0)) (by omega) (by omega) (by have := le_NN; omega) (by simp) (fun x hx => by have := List.eq_of_mem_replicate hx; rw [this]; simp only [D.int]; omega)
    exact q
  · rw [bne_iff_ne.2 g, cond_true, if_neg g]
/-! ### whole numbers that are the same -/
theorem eqints_l (l : List D) (hl : l.length ≤ 1000000) (κ : Unit → Option Bool) : ∀ (n i k : Nat), l.length - i = n → i ≤ l.length → n < k → Gr00_EqInts.l58 k l l (i : Int) κ = κ ()
  | 0, i, k, hn, hi, hk => by
    obtain ⟨k, rfl⟩ : ∃ m, k = m + 1 := ⟨k - 1, by omega⟩
    simp only [Gr00_EqInts.l58]
    rw [decide_eq_false (by omega)]
    rfl
  | n + 1, i, k, hn, hi, hk => by
    obtain ⟨k, rfl⟩ : ∃ m, k = m + 1 := ⟨k - 1, by omega⟩
    have g0 : inB (i : Int) l.length = true := inB_pos (by omega)
    simp only [Gr00_EqInts.l58, toNat_nat]
    rw [decide_eq_true (show (i : Int) < l.length by omega), cond_true, gd_pos g0, gd_pos g0, bne_self_eq_false, cond_false, w_succ i (by omega)]
    exact eqints_l l hl κ n (i + 1) k (by omega) (by omega) (by omega)
theorem eqints_self (l : List D) (hl : l.length ≤ 1000000) : Gr00_EqInts.f l l = some true := by
  unfold Gr00_EqInts.f
  rw [bne_self_eq_false, cond_false]
  exact eqints_l l hl _ l.length 0 NN (by omega) (by omega) (by have := le_NN; omega)
end Go.Pv

namespace Go.Pv
open Go.Proofs
set_option maxRecDepth 20000
theorem sl_pos {n m : Nat} (k : Nat) (hk : 0 < k) (h : n * k ≤ m) : n ≤ m := Nat.le_trans (Nat.le_mul_of_pos_right n hk) h
/-- Code that came in is no larger than memory. -/
theorem wide_of {c : D} (h : Wf Try.prog 5 26 c.cell) : Wide c := by
  obtain ⟨s, s1, s2⟩ := wf_str (wf_struct h Try.underlying26 (i := 0) rfl) Try.underlying9
  obtain ⟨xs, x1, x2, x3⟩ := wf_slice (wf_struct h Try.underlying26 (i := 1) rfl) Try.underlying22
  obtain ⟨ys, y1, y2, y3⟩ := wf_slice (wf_struct h Try.underlying26 (i := 2) rfl) Try.underlying23
  obtain ⟨zs, z1, z2, z3⟩ := wf_slice (wf_struct h Try.underlying26 (i := 3) rfl) Try.underlying24
  have b1 : Try.prog.bytesOf 47 = 48 := by kernel_rfl
  have b2 : Try.prog.bytesOf 35 = 24 := by kernel_rfl
  have b3 : Try.prog.bytesOf 68 = 16 := by kernel_rfl
  have b4 : Try.prog.bytesOf 3 = 8 := by kernel_rfl
  have hA : isA Try.prog 47 = true := by kernel_rfl
  rw [b1] at x2
  rw [b2] at y2
  rw [b3] at z2
  have s1 : c.cell 0 = .s s := s1
  have x1 : c.cell 1 = .l xs := x1
  have y1 : c.cell 2 = .l ys := y1
  have z1 : c.cell 3 = .l zs := z1
  refine ⟨?_, ?_, ?_, ?_, ?_⟩
  · simp only [D.s0, s1, D.str]; exact s2
  · simp only [D.ops, y1, D.list]; exact sl_pos 24 (by decide) y2
  · simp only [D.gl, z1, D.list]; exact sl_pos 16 (by decide) z2
  · simp only [D.data, x1, D.list]; exact sl_pos 48 (by decide) x2
  · simp only [D.data, x1, D.list]
    intro d hd
    obtain ⟨-, hw⟩ := x3 d hd
    rw [hA] at hw
    obtain ⟨t, t1, t2⟩ := wf_str (wf_struct hw Try.underlying47 (i := 0) rfl) Try.underlying9
    obtain ⟨us, u1, u2, -⟩ := wf_slice (wf_struct hw Try.underlying47 (i := 2) rfl) Try.underlying29
    rw [b4] at u2
    have t1 : d.cell 0 = .s t := t1
    have u1 : d.cell 2 = .l us := u1
    refine ⟨?_, ?_⟩
    · simp only [D.s0, t1, D.str]; exact t2
    · simp only [D.l2, u1, D.list]; exact sl_pos 8 (by decide) u2
def awakeC : D := .r [.s ByteArray.empty, .l [], .l ([.r [.i 24, .i 1, .i 0], .r [.i 1, .i 65, .i 0], .r [.i 25, .i 0, .i 0]] : List D), .l [], .i 1, .i 0]
theorem awake_fine : Fine awakeC := ⟨by decide, by decide, by decide, by decide, fun d hd => by cases hd⟩
theorem awake_depths : depthsR awakeC = ([.i 0, .i 2, .i 3], 0) := by kernel_rfl
theorem awake_f : Gw06_awake.f = some true := by
  unfold Gw06_awake.f
  have h := depths_f awakeC awake_fine
  rw [awake_depths] at h
  rw [show Gocode_Depths.f (.r [.s ByteArray.empty, .l [], .l ([.r [.i 24, .i 1, .i 0], .r [.i 1, .i 65, .i 0], .r [.i 25, .i 0, .i 0]] : List D), .l [], .i 1, .i 0]) = _ from h, Option.bind_some]
  have e := eqints_self ([.i 0, .i 2, .i 3] : List D) (by decide)
  rw [show ((([.i 0, .i 2, .i 3], 0) : List D × Int).2 == 0) = true from rfl, cond_true]
  rw [show Gr00_EqInts.f ((([.i 0, .i 2, .i 3], 0) : List D × Int).1) ([.i 0, .i 2, .i 3] : List D) = some true from e]
  rfl
theorem roomL_len : ∀ (l : List Op) (ds : List D) (p : Int) (out : List D), (roomL l ds p out).length = out.length
  | [], ds, _, _ => by cases ds <;> rfl
  | o :: l, [], _, _ => rfl
  | o :: l, d :: ds, p, out => by rw [roomL, roomL_len l, room2_len, room1_len]
theorem depthsR_len {c : D} (hf : Fine c) : (depthsR c).1.length ≤ 1000000 := by
  unfold depthsR
  split
  · rw [depthsL_len]; exact hf.o
  · exact Nat.zero_le _
theorem roomR_len {c : D} (hf : Fine c) : (roomR c).1.length ≤ 1000000 := by
  unfold roomR
  split
  · rename_i g
    have hlim := (check_ok hf g).lim
    rw [roomL_len, List.length_replicate]
    omega
  · exact Nat.zero_le _
theorem jumpsR_len {c : D} (hf : Fine c) : (jumpsR c).1.length ≤ 1000000 := by
  unfold jumpsR
  split
  · rename_i g
    have hlim := (check_ok hf g).lim
    rw [jumpsL_len, List.length_replicate]
    omega
  · exact Nat.zero_le _
theorem depths_pure (c : D) (hw : Wide c) : Gw06_OcodeDepths.f c = some true := by
  obtain ⟨b, hb, hf⟩ := heavy_f c hw
  unfold Gw06_OcodeDepths.f
  rw [hb, Option.bind_some]
  cases b with
  | true => rw [cond_true, awake_f]; rfl
  | false =>
    obtain ⟨hf, -⟩ := hf rfl
    rw [cond_false, depths_f c hf, Option.bind_some, rdepths_ref c hf, Option.bind_some, room_f c hf, Option.bind_some, rroom_ref c hf, Option.bind_some, jumps_f c hf, Option.bind_some, rjumps_ref c hf, Option.bind_some, eqints_self _ (depthsR_len hf), Option.bind_some, eqints_self _ (roomR_len hf)]
    simp only [beq_self_eq_true, Bool.and_self, Bool.true_and, cond_true, Option.bind_some, eqints_self _ (jumpsR_len hf), awake_f]
end Go.Pv

namespace Go.Pv
open Go.Proofs
set_option maxRecDepth 20000
set_option linter.unusedSimpArgs false
abbrev CodeT := ByteArray × List D × List D × List D × Int × Int × Unit
def toD (x : CodeT) : D := .r [.s x.1, .l x.2.1, .l x.2.2.1, .l x.2.2.2.1, .i x.2.2.2.2.1, .i x.2.2.2.2.2.1]
/-! ### a list that is changed from its start on -/
def upTo (f : D → D) (l : List D) (i : Nat) : List D := (l.take i).map f ++ l.drop i
theorem upTo_len (f : D → D) (l : List D) (i : Nat) : (upTo f l i).length = l.length := by
  simp only [upTo, List.length_append, List.length_map, List.length_take, List.length_drop]; omega
theorem upTo_zero (f : D → D) (l : List D) : upTo f l 0 = l := rfl
theorem upTo_end (f : D → D) (l : List D) : upTo f l l.length = l.map f := by simp [upTo]
theorem upTo_rd (f : D → D) (l : List D) {i : Nat} (hi : i < l.length) : rd (upTo f l i) i = rd l i := by
  unfold upTo
  rw [drop_rd l i hi]
  have h := ri_end ((l.take i).map f) (rd l i) (l.drop (i + 1))
  rw [show ((l.take i).map f).length = i by simp; omega] at h
  exact h
theorem take_succ' (f : D → D) (l : List D) {i : Nat} (hi : i < l.length) : (l.take (i + 1)).map f = (l.take i).map f ++ [f (rd l i)] := by
  have h := rd_get hi
  rw [List.take_add_one, h]; simp
theorem upTo_set (f : D → D) (l : List D) {i : Nat} (hi : i < l.length) {x : D} (hx : x = f (rd l i)) : (upTo f l i).set i x = upTo f l (i + 1) := by
  unfold upTo
  rw [drop_rd l i hi]
  have h := set_end ((l.take i).map f) (rd l i) x (l.drop (i + 1))
  rw [show ((l.take i).map f).length = i by simp; omega] at h
  rw [h, take_succ' f l hi, hx]; simp
theorem upTo_same (f : D → D) (l : List D) {i : Nat} (hi : i < l.length) (hx : f (rd l i) = rd l i) : upTo f l i = upTo f l (i + 1) := by
  unfold upTo
  rw [take_succ' f l hi, hx, drop_rd l i hi]; simp
/-! ### labels as they come: newest first; the number of each -/
def labR : List Op → List Int → List Int
  | [], r => r
  | o :: l, r => labR l (if o.f0 = 19 then o.f1 :: r else r)
def nuR : List Int → Int → Int
  | [], _ => 0
  | y :: r, x => if x = y then (r.length : Int) + 1 else nuR r x
def mapR : List Int → List (D × D)
  | [] => []
  | y :: r => (.i y, .i ((r.length : Int) + 1)) :: mapR r
theorem labR_len : ∀ (l : List Op) (r : List Int), (labR l r).length ≤ l.length + r.length
  | [], r => by simp [labR]
  | o :: l, r => by
    have := labR_len l (if o.f0 = 19 then o.f1 :: r else r)
    rw [labR]
    by_cases h : o.f0 = 19
    · rw [if_pos h] at this ⊢; simp only [List.length_cons] at this ⊢; omega
    · rw [if_neg h] at this ⊢; simp only [List.length_cons] at this ⊢; omega
theorem mapR_len : ∀ r : List Int, (mapR r).length = r.length
  | [] => rfl
  | _ :: r => by simp only [mapR, List.length_cons, mapR_len r]
theorem mhas_mapR (x : Int) : ∀ r : List Int, mhas (.int .i64) (.i x) (mapR r) = true ↔ x ∈ r
  | [] => by simp [mapR, mhas]
  | y :: r => by
    simp only [mapR, mhas, Bool.or_eq_true, mhas_mapR x r, List.mem_cons, dEq, D.int, beq_iff_eq]
theorem mlen_mapR : ∀ {r : List Int}, r.Nodup → mlen (.int .i64) (mapR r) = r.length
  | [], _ => rfl
  | y :: r, h => by
    rw [List.nodup_cons] at h
    have e : mhas (.int .i64) (.i y) (mapR r) = false := by
      rw [← Bool.not_eq_true, mhas_mapR]; exact h.1
    simp only [mapR, mlen, e, cond_false, mlen_mapR h.2, List.length_cons]
theorem mget_mapR (x : Int) : ∀ r : List Int, (mget (.int .i64) (.i x) (.i 0) (mapR r)).int = nuR r x
  | [] => rfl
  | y :: r => by
    simp only [mapR, mget, dEq, D.int, nuR]
    by_cases h : x = y
    · rw [if_pos h, beq_iff_eq.2 h]; rfl
    · rw [if_neg h, beq_eq_false_iff_ne.2 h]; exact mget_mapR x r
/-! ### labels are told apart -/
theorem rd_setI (xs : List D) (i j : Nat) (x : D) : rd (xs.set i x) j = if i = j ∧ i < xs.length then x else rd xs j := by
  induction xs generalizing i j with
  | nil => simp [rd]
  | cons a xs ih =>
    cases i with
    | zero => cases j <;> simp [rd]
    | succ i =>
      cases j with
      | zero => simp [rd]
      | succ j =>
        have := ih i j
        simp only [List.set_cons_succ, rd, List.length_cons] at this ⊢
        rw [this]
        by_cases h : i = j ∧ i < xs.length
        · rw [if_pos h, if_pos (by omega)]
        · rw [if_neg h, if_neg (by omega)]
theorem placL_labs : ∀ (l : List Op) (i : Nat) (p q : Int) (xs ys : List D) (r : List Int) (z : List D × List D × Int × Int), placL l i p q xs ys = some z → (∀ o ∈ l, o.f0 = 19 → 0 ≤ o.f1 ∧ o.f1 < ys.length) → r.Nodup → (∀ x ∈ r, 0 ≤ x ∧ x < ys.length ∧ (rd ys x.toNat).int ≠ 0) → (labR l r).Nodup
  | [], i, p, q, xs, ys, r, z, h, hl, hd, hr => hd
  | o :: l, i, p, q, xs, ys, r, z, h, hl, hd, hr => by
    have hl' : ∀ o ∈ l, o.f0 = 19 → 0 ≤ o.f1 ∧ o.f1 < ys.length := fun o ho => hl o (List.mem_cons_of_mem _ ho)
    rw [placL] at h
    rw [labR]
    by_cases h1 : o.f0 = 24
    · rw [if_pos h1] at h
      rw [if_neg (by omega)]
      by_cases h2 : o.f1 = p + 1
      · rw [if_pos h2] at h
        exact placL_labs l _ _ _ _ _ _ _ h hl' hd hr
      · rw [if_neg h2] at h; exact absurd h (by simp)
    · rw [if_neg h1] at h
      by_cases h2 : o.f0 = 19
      · rw [if_pos h2] at h ⊢
        by_cases h3 : (rd ys o.f1.toNat).int ≠ 0 ∨ p = 0
        · rw [if_pos h3] at h; exact absurd h (by simp)
        · rw [if_neg h3] at h
          obtain ⟨a1, a2⟩ := hl o (List.mem_cons_self ..) h2
          have hz : (rd ys o.f1.toNat).int = 0 := Classical.not_not.1 fun g => h3 (.inl g)
          have hp : p ≠ 0 := fun g => h3 (.inr g)
          refine placL_labs l _ _ _ _ _ _ _ h (by simpa using hl') (List.nodup_cons.2 ⟨fun hm => (hr _ hm).2.2 hz, hd⟩) fun x hx => ?_
          rw [List.length_set, rd_setI]
          rcases List.mem_cons.1 hx with hx | hx
          · subst hx; refine ⟨a1, a2, ?_⟩
            rw [if_pos ⟨rfl, by omega⟩]; exact hp
          · obtain ⟨b1, b2, b3⟩ := hr x hx
            refine ⟨b1, b2, ?_⟩
            by_cases e : o.f1.toNat = x.toNat ∧ o.f1.toNat < ys.length
            · rw [if_pos e]; exact hp
            · rw [if_neg e]; exact b3
      · rw [if_neg h2] at h ⊢
        exact placL_labs l _ _ _ _ _ _ _ h hl' hd hr
theorem labs_ok {c : D} (hv : Valid c) : (labR c.ops []).Nodup := by
  have st := hv.st
  have hp := st.pl
  unfold placR at hp
  cases hr : placL c.ops 0 0 0 (zeros c.labels.toNat) (zeros c.labels.toNat) with
  | none => rw [hr] at hp; exact absurd hp (by simp [placFin])
  | some z =>
    refine placL_labs _ _ _ _ _ _ _ _ hr (fun o ho h => ?_) List.nodup_nil fun x hx => by cases hx
    have := labels_ok st.ops o ho h
    have h0 := st.l
    simp only [zeros, List.length_replicate]
    omega
/-- An instruction with its label numbered anew. -/
def relab (r : List Int) (o : Op) : Op :=
  if o.f0 = 30 then .r [o.cell 0, o.cell 1, .i (nuR r o.f2)] else if o.f0 = 19 ∨ namedI o > 0 then .r [o.cell 0, .i (nuR r o.f1), o.cell 2] else o
/-! ### the program's -/
theorem inK_i64 (n : Int) (h : -9223372036854775808 ≤ n ∧ n ≤ 9223372036854775807) : inK .i64 n = true := by
  simp [inK, Lit.wf, IntKind.min, IntKind.max, IntKind.signed, IntKind.bits]
  omega
theorem lim_pos {n : Nat} (h : n ≤ 1099511627776) : Nat.ble n lim = true := Nat.ble_eq_true_of_le h
theorem cloneI_f (l : List D) (h : l.length ≤ 1000000) : Gslices_Clone___int_int.f l = some l := by
  cases l with
  | nil => rfl
  | cons x xs => simp only [Gslices_Clone___int_int.f, List.nil_append]; rw [gd_pos (lim_pos (by simp at h ⊢; omega))]
theorem cloneO_f (l : List D) (h : l.length ≤ 1000000) : Gslices_Clone___bluebell_api_Op_bluebell_api_Op.f l = some l := by
  cases l with
  | nil => rfl
  | cons x xs => simp only [Gslices_Clone___bluebell_api_Op_bluebell_api_Op.f, List.nil_append]; rw [gd_pos (lim_pos (by simp at h ⊢; omega))]
theorem cloneE_f (l : List D) (h : l.length ≤ 1000000) : Gslices_Clone___bluebell_api_Entry_bluebell_api_Entry.f l = some l := by
  cases l with
  | nil => rfl
  | cons x xs => simp only [Gslices_Clone___bluebell_api_Entry_bluebell_api_Entry.f, List.nil_append]; rw [gd_pos (lim_pos (by simp at h ⊢; omega))]
theorem cloneD_f (l : List D) (h : l.length ≤ 1000000) : Gslices_Clone___bluebell_api_Data_bluebell_api_Data.f l = some l := by
  cases l with
  | nil => rfl
  | cons x xs => simp only [Gslices_Clone___bluebell_api_Data_bluebell_api_Data.f, List.nil_append]; rw [gd_pos (lim_pos (by simp at h ⊢; omega))]
def cpD (d : D) : D := .r [d.cell 0, d.cell 1, .l d.l2]
theorem clone_l (l : List D) (hl : l.length ≤ 1000000) (hw : ∀ d ∈ l, d.l2.length ≤ 1000000) (s : ByteArray) (o g : List D) (p q : Int) (v2 : D) (κ : CodeT × D → Option CodeT) : ∀ (n i k : Nat), l.length - i = n → i ≤ l.length → n < k →
    Gocode_Clone.l58 k (s, upTo cpD l i, o, g, p, q, ()) v2 (l.length : Int) (i : Int) κ = κ ((s, l.map cpD, o, g, p, q, ()), v2)
  | 0, i, k, hn, hi, hk => by
    obtain ⟨k, rfl⟩ : ∃ m, k = m + 1 := ⟨k - 1, by omega⟩
    obtain rfl : i = l.length := by omega
    simp only [Gocode_Clone.l58]
    rw [decide_eq_false (by omega), cond_false, upTo_end]
  | n + 1, i, k, hn, hi, hk => by
    obtain ⟨k, rfl⟩ : ∃ m, k = m + 1 := ⟨k - 1, by omega⟩
    have hlt : i < l.length := by omega
    have hm := hw _ (rd_mem hlt)
    have ih := clone_l l hl hw s o g p q v2 κ n (i + 1) k (by omega) (by omega) (by omega)
    have g0 : inB (i : Int) l.length = true := inB_pos (by omega)
    have g1 : Nat.blt i l.length = true := blt_pos hlt
    have e : Gslices_Clone___int_int.f ((rd l i).cell 2).list = some (rd l i).l2 := cloneI_f _ hm
    simp only [Gocode_Clone.l58, toNat_nat, upTo_len, upTo_rd _ l hlt]
    rw [decide_eq_true (show (i : Int) < l.length by omega), cond_true, gd_pos g0, gd_pos g1, e, Option.bind_some, gd_pos g0, gd_pos g1, w_succ i (by omega), upTo_set cpD l hlt (show D.r [(rd l i).cell 0, (rd l i).cell 1, .l (rd l i).l2] = cpD (rd l i) from rfl), ih]
def cpC (c : D) : CodeT := (c.s0, c.data.map cpD, c.ops, c.gl, c.procs, c.labels, ())
theorem clone_f (c : D) (h : Fine c) : Gocode_Clone.f c = some (cpC c) := by
  unfold Gocode_Clone.f
  have e1 : Gslices_Clone___bluebell_api_Op_bluebell_api_Op.f (c.cell 2).list = some c.ops := cloneO_f _ h.o
  have e2 : Gslices_Clone___bluebell_api_Entry_bluebell_api_Entry.f (c.cell 3).list = some c.gl := cloneE_f _ h.g
  have e3 : Gslices_Clone___bluebell_api_Data_bluebell_api_Data.f (c.cell 1).list = some c.data := cloneD_f _ h.d
  rw [e1, Option.bind_some, e2, Option.bind_some, e3, Option.bind_some]
  have q := clone_l c.data h.d (fun d hd => (h.w d hd).2) c.s0 c.ops c.gl c.procs c.labels (.r [.s ByteArray.empty, .l [], .l [], .l [], .i 0, .i 0]) (fun y5 => some (y5.1.1, y5.1.2.1, y5.1.2.2.1, y5.1.2.2.2.1, y5.1.2.2.2.2.1, y5.1.2.2.2.2.2.1, ())) c.data.length 0 NN (by omega) (by omega) (by have := le_NN; have := h.d; omega)
  rw [upTo_zero, show ((0 : Nat) : Int) = 0 from rfl] at q
  exact q
theorem labmap_l (s : ByteArray) (d o g : List D) (p q : Int) (v2 : D) (ho : o.length ≤ 1000000) (hw : ∀ x ∈ o, x.f0 = 19 → Small x.f1) (hd : (labR o []).Nodup) (κ : CodeT × D × List (D × D) → Option CodeT) : ∀ (n i k : Nat) (r : List Int), o.length - i = n → i ≤ o.length → n < k → labR (o.drop i) r = labR o [] → r.length ≤ i → r.Nodup →
    Gocode_Labelled.l122 k (s, d, o, g, p, q, ()) v2 (mapR r) () (o.length : Int) (i : Int) κ = κ ((s, d, o, g, p, q, ()), v2, mapR (labR o []))
  | 0, i, k, r, hn, hi, hk, hr, hrl, hrd => by
    obtain ⟨k, rfl⟩ : ∃ m, k = m + 1 := ⟨k - 1, by omega⟩
    obtain rfl : i = o.length := by omega
    rw [List.drop_length, labR] at hr
    simp only [Gocode_Labelled.l122]
    rw [decide_eq_false (by omega), cond_false, hr]
  | n + 1, i, k, r, hn, hi, hk, hr, hrl, hrd => by
    obtain ⟨k, rfl⟩ : ∃ m, k = m + 1 := ⟨k - 1, by omega⟩
    have hlt : i < o.length := by omega
    have hm := hw _ (rd_mem hlt)
    have ih := fun r => labmap_l s d o g p q v2 ho hw hd κ n (i + 1) k r (by omega) (by omega) (by omega)
    have g0 : inB (i : Int) o.length = true := inB_pos (by omega)
    have g1 : Nat.blt i o.length = true := blt_pos hlt
    rw [drop_rd o i hlt, labR] at hr
    simp only [Gocode_Labelled.l122, toNat_nat]
    rw [decide_eq_true (show (i : Int) < o.length by omega), cond_true, gd_pos g0, gd_pos g1, w_succ i (by omega)]
    by_cases e : (rd o i).f0 = 19
    · rw [if_pos e] at hr
      have e' : ((rd o i).cell 0).int = 19 := e
      have hs := hm e
      unfold Small at hs
      have hs' : -1000000000000 ≤ ((rd o i).cell 1).int ∧ ((rd o i).cell 1).int ≤ 1000000000000 := hs
      rw [beq_iff_eq.2 e', cond_true, mlen_mapR hrd, w64 _ (by omega), inK_i64 _ (by omega), inK_i64 _ (by omega), mapR_len]
      have g2 : (true && (true && Nat.blt r.length lim)) = true := by
        rw [Bool.true_and, Bool.true_and]; exact blt_pos (by unfold lim; omega)
      rw [gd_pos g2]
      refine ih ((rd o i).f1 :: r) hr (by simp only [List.length_cons]; omega) ?_
      have : ∀ (l : List Op) (r : List Int), (labR l r).Nodup → r.Nodup := fun l => by
        induction l with
        | nil => exact fun r h => h
        | cons x l ihl =>
          intro r h
          rw [labR] at h
          have := ihl _ h
          by_cases hx : x.f0 = 19
          · rw [if_pos hx] at this; exact (List.nodup_cons.1 this).2
          · rw [if_neg hx] at this; exact this
      exact this _ _ (by rw [hr]; exact hd)
    · rw [if_neg e] at hr
      have e' : ¬ ((rd o i).cell 0).int = 19 := e
      rw [beq_eq_false_iff_ne.2 e', cond_false]
      exact ih r hr (by omega) hrd
theorem labels_l (s : ByteArray) (d o g : List D) (p q : Int) (v2 : D) (r : List Int) (ho : o.length ≤ 1000000) (hw : ∀ x ∈ o, Small x.f1 ∧ Small x.f2) (κ : CodeT × D × List (D × D) → Option CodeT) : ∀ (n i k : Nat), o.length - i = n → i ≤ o.length → n < k →
    Gocode_Labelled.l250 k (s, d, upTo (relab r) o i, g, p, q, ()) v2 (mapR r) (o.length : Int) (i : Int) κ = κ ((s, d, o.map (relab r), g, p, q, ()), v2, mapR r)
  | 0, i, k, hn, hi, hk => by
    obtain ⟨k, rfl⟩ : ∃ m, k = m + 1 := ⟨k - 1, by omega⟩
    obtain rfl : i = o.length := by omega
    simp only [Gocode_Labelled.l250]
    rw [decide_eq_false (by omega), cond_false, upTo_end]
  | n + 1, i, k, hn, hi, hk => by
    obtain ⟨k, rfl⟩ : ∃ m, k = m + 1 := ⟨k - 1, by omega⟩
    have hlt : i < o.length := by omega
    obtain ⟨m1, m2⟩ := hw _ (rd_mem hlt)
    have ih := labels_l s d o g p q v2 r ho hw κ n (i + 1) k (by omega) (by omega) (by omega)
    have g0 : inB (i : Int) o.length = true := inB_pos (by omega)
    have g1 : Nat.blt i o.length = true := blt_pos hlt
    unfold Small at m1 m2
    have k1 : inK .i64 ((rd o i).cell 1).int = true := inK_i64 _ (by simp only [D.f1] at m1; omega)
    have k2 : inK .i64 ((rd o i).cell 2).int = true := inK_i64 _ (by simp only [D.f2] at m2; omega)
    simp only [Gocode_Labelled.l250, toNat_nat, upTo_len, upTo_rd _ o hlt]
    rw [decide_eq_true (show (i : Int) < o.length by omega), cond_true, gd_pos g0, gd_pos g1, w_succ i (by omega), k1, k2, named_f, mget_mapR, mget_mapR]
    by_cases e : (rd o i).f0 = 30
    · have e' : ((rd o i).cell 0).int = 30 := e
      rw [beq_iff_eq.2 e', cond_true, gd_pos g1, gd_pos rfl, gd_pos g1, upTo_set (relab r) o hlt (by unfold relab; rw [if_pos e]), ih]
    · have e' : ¬ ((rd o i).cell 0).int = 30 := e
      rw [beq_eq_false_iff_ne.2 e', cond_false, gd_pos g1, gd_pos (by rw [g1]; simp)]
      by_cases e2 : (rd o i).f0 = 19
      · have e2' : ((rd o i).cell 0).int = 19 := e2
        rw [beq_iff_eq.2 e2']
        simp only [Bool.not_true, cond_false, Option.bind_some, Bool.true_or, cond_true]
        rw [gd_pos g1, gd_pos rfl, gd_pos g1, upTo_set (relab r) o hlt (by unfold relab; rw [if_neg e, if_pos (.inl e2)]), ih]
      · have e2' : ¬ ((rd o i).cell 0).int = 19 := e2
        rw [beq_eq_false_iff_ne.2 e2']
        simp only [Bool.not_false, cond_true, Option.bind_some, Bool.false_or]
        by_cases e3 : namedI (rd o i) > 0
        · rw [decide_eq_true e3, cond_true, gd_pos g1, gd_pos rfl, gd_pos g1, upTo_set (relab r) o hlt (by unfold relab; rw [if_neg e, if_pos (.inr e3)]), ih]
        · rw [decide_eq_false e3, cond_false, upTo_same (relab r) o hlt (by unfold relab; rw [if_neg e, if_neg (by intro h; rcases h with h | h; exact e2 h; exact e3 h)]), ih]
/-- Code with its labels numbered anew, as the program tells it. -/
def renC (c : D) : CodeT := (c.s0, c.data.map cpD, c.ops.map (relab (labR c.ops [])), c.gl, c.procs, ((labR c.ops []).length : Int), ())
theorem small_ops {c : D} (hv : Valid c) : ∀ x ∈ c.ops, Small x.f1 ∧ Small x.f2 := fun x hx => by
  obtain ⟨i, hi, rfl⟩ : ∃ i, i < c.ops.length ∧ rd c.ops i = x := by
    obtain ⟨i, hi, h⟩ := List.mem_iff_getElem.1 hx
    exact ⟨i, hi, by have := rd_get hi; rw [List.getElem?_eq_getElem hi, h] at this; exact (Option.some.inj this).symm⟩
  have := op1 hv hi
  exact ⟨this.s1, this.s2⟩
theorem labelled_f (c : D) (hv : Valid c) : Gocode_Labelled.f c = some (renC c) := by
  have h := hv.fine
  unfold Gocode_Labelled.f
  rw [clone_f c h, Option.bind_some]
  have q1 := fun κ => labmap_l c.s0 (c.data.map cpD) c.ops c.gl c.procs c.labels (.r [.s ByteArray.empty, .l [], .l [], .l [], .i 0, .i 0]) h.o (fun x hx _ => (small_ops hv x hx).1) (labs_ok hv) κ c.ops.length 0 NN [] (by omega) (by omega) (by have := le_NN; have := h.o; omega) rfl (by simp) List.nodup_nil
  rw [show ((0 : Nat) : Int) = 0 from rfl, show mapR [] = [] from rfl] at q1
  refine (q1 _).trans ?_
  have q2 := fun κ => labels_l c.s0 (c.data.map cpD) c.ops c.gl c.procs c.labels (.r [.s ByteArray.empty, .l [], .l [], .l [], .i 0, .i 0]) (labR c.ops []) h.o (small_ops hv) κ c.ops.length 0 NN (by omega) (by omega) (by have := le_NN; have := h.o; omega)
  rw [show ((0 : Nat) : Int) = 0 from rfl, upTo_zero] at q2
  refine (q2 _).trans ?_
  show some (c.s0, c.data.map cpD, c.ops.map (relab (labR c.ops [])), c.gl, c.procs, ((mlen (K.int .i64) (mapR (labR c.ops [])) : Nat) : Int), ()) = _
  rw [mlen_mapR (labs_ok hv)]; rfl
def noC : CodeT := (ByteArray.empty, [], [], [], 0, 0, ())
def renR (c : D) : CodeT × Int := if checkI c = 0 then (renC c, 0) else (noC, checkI c)
theorem renumber_f (c : D) (hf : Fine c) : Gocode_Renumber.f c = some (renR c) := by
  unfold Gocode_Renumber.f renR
  rw [check_f c hf, Option.bind_some]
  by_cases g : checkI c = 0
  · rw [bne0 g, cond_false, if_pos g, labelled_f c (check_ok hf g)]; rfl
  · rw [bne_iff_ne.2 g, cond_true, if_neg g]; rfl
end Go.Pv

namespace Go.Pv
open Go.Proofs
set_option maxRecDepth 20000
set_option linter.unusedSimpArgs false
/-! ### the reference's -/
def TabOk (xs : List D) (L : Nat) (r : List Int) : Prop := xs.length = L + 1 ∧ ∀ y : Int, 0 ≤ y → y ≤ L → (rd xs y.toNat).int = nuR r y
theorem rnum_l (c v2 : D) (hl : c.ops.length ≤ 1000000) (L : Nat) (hL : L ≤ 1000000) (hops : ∀ o ∈ c.ops, o.f0 = 19 → 0 ≤ o.f1 ∧ o.f1 ≤ L) (κ : D × D × List D × Int → Option (CodeT × Int)) : ∀ (n i k : Nat) (r : List Int) (xs : List D), c.ops.length - i = n → i ≤ c.ops.length → n < k → r.length ≤ i → TabOk xs L r →
    ∃ ys, Gr06_Renumber.l506 k c v2 xs (r.length : Int) (i : Int) κ = κ (c, v2, ys, ((labR (c.ops.drop i) r).length : Int)) ∧ TabOk ys L (labR (c.ops.drop i) r)
  | 0, i, k, r, xs, hn, hi, hk, hr, hx => by
    obtain ⟨k, rfl⟩ : ∃ m, k = m + 1 := ⟨k - 1, by omega⟩
    obtain rfl : i = c.ops.length := by omega
    have e : ((c.cell 2).list.length : Int) = (c.ops.length : Int) := rfl
    simp only [Gr06_Renumber.l506]
    rw [e, decide_eq_false (by omega), cond_false, List.drop_length]
    exact ⟨xs, rfl, hx⟩
  | n + 1, i, k, r, xs, hn, hi, hk, hr, hx => by
    obtain ⟨k, rfl⟩ : ∃ m, k = m + 1 := ⟨k - 1, by omega⟩
    have hlt : i < c.ops.length := by omega
    have hm := hops _ (rd_mem hlt)
    have ih := fun r xs => rnum_l c v2 hl L hL hops κ n (i + 1) k r xs (by omega) (by omega) (by omega)
    have g0 : inB (i : Int) (c.cell 2).list.length = true := inB_pos (by have : (c.cell 2).list.length = c.ops.length := rfl; omega)
    rw [drop_rd c.ops i hlt, labR]
    simp only [Gr06_Renumber.l506, toNat_nat]
    rw [decide_eq_true (show (i : Int) < ((c.cell 2).list.length : Int) by have : (c.cell 2).list.length = c.ops.length := rfl; omega), cond_true, gd_pos g0, w_succ i (by omega)]
    by_cases e : (rd c.ops i).f0 = 19
    · obtain ⟨a1, a2⟩ := hm e
      have hm' : 0 ≤ ((rd (c.cell 2).list i).cell 1).int ∧ ((rd (c.cell 2).list i).cell 1).int ≤ (L : Int) := hm e
      have e' : ((rd (c.cell 2).list i).cell 0).int = 19 := e
      obtain ⟨x1, x2⟩ := hx
      rw [if_pos e, beq_iff_eq.2 e', cond_true, gd_pos g0, gd_pos (inB_pos (by omega)), gd_pos (blt_pos (by omega)), w_succ r.length (by omega)]
      refine ih ((rd c.ops i).f1 :: r) _ (by simp only [List.length_cons]; omega) ⟨by simpa using x1, fun y y0 y1 => ?_⟩
      rw [rd_setI]
      simp only [nuR]
      by_cases h : y = (rd c.ops i).f1
      · rw [if_pos ⟨by rw [h], by omega⟩, if_pos h]; simp only [D.int]; omega
      · rw [if_neg (by
          have : ((rd (c.cell 2).list i).cell 1).int = (rd c.ops i).f1 := rfl
          intro hh; apply h; omega), if_neg h]; exact x2 y y0 y1
    · have e' : ¬ ((rd (c.cell 2).list i).cell 0).int = 19 := e
      rw [if_neg e, beq_eq_false_iff_ne.2 e', cond_false]
      exact ih r xs (by omega) hx
def cpR (d : D) : D := .r [.s d.s0, .b d.b1, .l d.l2]
theorem copyI_f (l : List D) (h : l.length ≤ 1000000) : Gr00_CopyInts.f l = some l := by
  simp only [Gr00_CopyInts.f, List.nil_append]; rw [gd_pos (lim_pos (by simp; omega))]
theorem copy_l (c v2 : D) (h : Fine c) (κ : D × D × List D → Option CodeT) : ∀ (n i k : Nat), c.data.length - i = n → i ≤ c.data.length → n < k →
    Gr00_CopyCode.l58 k c v2 ((c.data.take i).map cpR) (i : Int) κ = κ (c, v2, c.data.map cpR)
  | 0, i, k, hn, hi, hk => by
    obtain ⟨k, rfl⟩ : ∃ m, k = m + 1 := ⟨k - 1, by omega⟩
    obtain rfl : i = c.data.length := by omega
    have e : ((c.cell 1).list.length : Int) = (c.data.length : Int) := rfl
    simp only [Gr00_CopyCode.l58]
    rw [e, decide_eq_false (by omega), cond_false, List.take_length]
  | n + 1, i, k, hn, hi, hk => by
    obtain ⟨k, rfl⟩ : ∃ m, k = m + 1 := ⟨k - 1, by omega⟩
    have hlt : i < c.data.length := by omega
    have hd := h.d
    have hm := (h.w _ (rd_mem hlt)).2
    have e0 : (c.cell 1).list.length = c.data.length := rfl
    have ih := copy_l c v2 h κ n (i + 1) k (by omega) (by omega) (by omega)
    have g0 : inB (i : Int) (c.cell 1).list.length = true := inB_pos (by omega)
    have e : Gr00_CopyInts.f ((rd (c.cell 1).list i).cell 2).list = some (rd c.data i).l2 := copyI_f _ hm
    simp only [Gr00_CopyCode.l58, toNat_nat]
    rw [decide_eq_true (show (i : Int) < ((c.cell 1).list.length : Int) by omega), cond_true, gd_pos g0, e, Option.bind_some, gd_pos (lim_pos (by simp; omega)), w_succ i (by omega)]
    rw [take_succ' cpR c.data hlt] at ih
    exact ih
def cpC' (c : D) : CodeT := (c.s0, c.data.map cpR, c.ops, c.gl, c.procs, c.labels, ())
theorem copy_f (c : D) (h : Fine c) : Gr00_CopyCode.f c = some (cpC' c) := by
  unfold Gr00_CopyCode.f
  have q := fun κ => copy_l c (.r [.s ByteArray.empty, .l [], .l [], .l [], .i 0, .i 0]) h κ c.data.length 0 NN (by omega) (by omega) (by have := le_NN; have := h.d; omega)
  rw [show ((0 : Nat) : Int) = 0 from rfl, show (c.data.take 0).map cpR = [] from rfl] at q
  refine (q _).trans ?_
  have e1 : (c.cell 2).list.length ≤ 1000000 := h.o
  have e2 : (c.cell 3).list.length ≤ 1000000 := h.g
  simp only [List.nil_append]
  rw [gd_pos (lim_pos (by simp; omega)), gd_pos (lim_pos (by simp; omega))]
  rfl
theorem named_30 {o : Op} (h : o.f0 = 30) : namedI o = o.f2 := by unfold namedI; rw [if_neg (by omega), if_pos h]
theorem named_6 {o : Op} (h : namedI o > 0) (h2 : o.f0 ≠ 30) : o.f0 = 20 ∨ o.f0 = 21 ∨ o.f0 = 22 ∨ o.f0 = 27 ∨ o.f0 = 29 := by
  unfold namedI at h
  by_cases h1 : o.f0 = 20 ∨ o.f0 = 21 ∨ o.f0 = 22 ∨ o.f0 = 27 ∨ o.f0 = 29
  · exact h1
  · rw [if_neg h1, if_neg h2] at h; omega
/-- Labels that instructions name lie within the code's. -/
structure LabOk (L : Nat) (o : Op) : Prop where
  c30 : o.f0 = 30 → 0 ≤ o.f2 ∧ o.f2 ≤ L
  c19 : o.f0 = 19 → 0 ≤ o.f1 ∧ o.f1 ≤ L
  nam : o.f0 ≠ 30 → namedI o > 0 → 0 ≤ o.f1 ∧ o.f1 ≤ L
theorem labOk {c : D} (hv : Valid c) {o : Op} (ho : o ∈ c.ops) {L : Nat} (hL : c.labels = L) : LabOk L o := by
  have h := List.all_eq_true.1 hv.st.ops o ho
  refine ⟨fun h2 => ?_, fun h2 => ?_, fun h2 h3 => ?_⟩
  · have h3 := (and2 (opOk_num h)).2
    rw [if_neg (by rw [h2]; decide), if_neg (by rw [h2]; decide), if_pos h2] at h3
    have := inIv_iff.1 h3
    omega
  · have := opOk_lab h (kind6 _ (.inl h2)); omega
  · have := opOk_lab h (kind6 _ (.inr (named_6 h3 h2))); omega
theorem rlabels_l (s : ByteArray) (d o g : List D) (p q : Int) (v2 : D) (xs : List D) (L : Nat) (r : List Int) (hx : TabOk xs L r) (ho : o.length ≤ 1000000) (hw : ∀ x ∈ o, LabOk L x) (κ : D × CodeT → Option (CodeT × Int)) : ∀ (n i k : Nat), o.length - i = n → i ≤ o.length → n < k →
    Gr06_Renumber.l4090 k v2 xs (s, d, upTo (relab r) o i, g, p, q, ()) (i : Int) κ = κ (v2, (s, d, o.map (relab r), g, p, q, ()))
  | 0, i, k, hn, hi, hk => by
    obtain ⟨k, rfl⟩ : ∃ m, k = m + 1 := ⟨k - 1, by omega⟩
    obtain rfl : i = o.length := by omega
    simp only [Gr06_Renumber.l4090, upTo_len]
    rw [decide_eq_false (by omega), cond_false, upTo_end]
  | n + 1, i, k, hn, hi, hk => by
    obtain ⟨k, rfl⟩ : ∃ m, k = m + 1 := ⟨k - 1, by omega⟩
    have hlt : i < o.length := by omega
    have hm := hw _ (rd_mem hlt)
    obtain ⟨x1, x2⟩ := hx
    have ih := rlabels_l s d o g p q v2 xs L r ⟨x1, x2⟩ ho hw κ n (i + 1) k (by omega) (by omega) (by omega)
    have g0 : inB (i : Int) o.length = true := inB_pos (by omega)
    have g1 : Nat.blt i o.length = true := blt_pos hlt
    simp only [Gr06_Renumber.l4090, toNat_nat, upTo_len, upTo_rd _ o hlt]
    rw [decide_eq_true (show (i : Int) < (o.length : Int) by omega), cond_true, gd_pos g0, gd_pos g1, label_f, Option.bind_some, gd_pos g0, gd_pos g1, w_succ i (by omega), g0, g1]
    by_cases e : (rd o i).f0 = 30
    · have e' : ((rd o i).cell 0).int = 30 := e
      have hz := hm.c30 e
      have hn := named_30 e
      have hy := x2 _ hz.1 hz.2
      rw [beq_iff_eq.2 e', cond_true, hn, gd_pos (inB_pos (by omega)), gd_pos (blt_pos (by omega)), gd_pos rfl, gd_pos rfl, upTo_set (relab r) o hlt (show D.r [(rd o i).cell 0, (rd o i).cell 1, .i (rd xs (rd o i).f2.toNat).int] = relab r (rd o i) by unfold relab; rw [if_pos e, hy]), ih]
    · have e' : ¬ ((rd o i).cell 0).int = 30 := e
      rw [beq_eq_false_iff_ne.2 e', cond_false, gd_pos (by simp), gd_pos (by simp)]
      have key : ((rd o i).f0 = 19 ∨ namedI (rd o i) > 0) → ((decide (namedI (rd o i) > 0)) || ((((rd o i).cell 0).int) == 19)) = true := fun h => by
        simp only [Bool.or_eq_true, decide_eq_true_eq, beq_iff_eq]; exact h.symm
      by_cases e2 : (rd o i).f0 = 19 ∨ namedI (rd o i) > 0
      · have hz : 0 ≤ (rd o i).f1 ∧ (rd o i).f1 ≤ L := by
          rcases e2 with h | h
          · exact hm.c19 h
          · exact hm.nam e h
        have hz' : 0 ≤ ((rd o i).cell 1).int ∧ ((rd o i).cell 1).int ≤ (L : Int) := hz
        have hy := x2 _ hz.1 hz.2
        rw [key e2, cond_true, gd_pos rfl, gd_pos rfl, gd_pos (inB_pos (by omega)), gd_pos (blt_pos (by omega)), gd_pos rfl, gd_pos rfl, upTo_set (relab r) o hlt (show D.r [(rd o i).cell 0, .i (rd xs ((rd o i).cell 1).int.toNat).int, (rd o i).cell 2] = relab r (rd o i) by unfold relab; rw [if_neg e, if_pos e2, ← hy]), ih]
      · have e3 : ((decide (namedI (rd o i) > 0)) || ((((rd o i).cell 0).int) == 19)) = false := by
          rw [← Bool.not_eq_true]
          simp only [Bool.or_eq_true, decide_eq_true_eq, beq_iff_eq]
          exact fun h => e2 h.symm
        rw [e3, cond_false, upTo_same (relab r) o hlt (by unfold relab; rw [if_neg e, if_neg e2]), ih]
def renC' (c : D) : CodeT := (c.s0, c.data.map cpR, c.ops.map (relab (labR c.ops [])), c.gl, c.procs, ((labR c.ops []).length : Int), ())
def renR' (c : D) : CodeT × Int := if checkI c = 0 then (renC' c, 0) else (noC, checkI c)
theorem tab_zero (L : Nat) : TabOk (zeros L) L [] := by
  refine ⟨by simp [zeros], fun y h0 h1 => ?_⟩
  have : y.toNat < (zeros L).length := by simp [zeros]; omega
  have h : rd (zeros L) y.toNat = .i 0 := List.eq_of_mem_replicate (rd_mem this)
  rw [h]; rfl
theorem rrenumber_ref (c : D) (hf : Fine c) : Gr06_Renumber.f c = some (renR' c) := by
  unfold Gr06_Renumber.f renR'
  rw [check_ref c hf, Option.bind_some]
  by_cases g : checkI c = 0
  · have hv := check_ok hf g
    have st := hv.st
    obtain ⟨L, hL⟩ : ∃ L : Nat, c.labels = L := ⟨c.labels.toNat, by have := st.l; omega⟩
    have hL' : (c.cell 5).int = L := hL
    have hL1 := st.l1
    rw [bne0 g, cond_false, if_pos g, hL', w_succ L (by omega)]
    have g1 : (decide (0 ≤ ((L + 1 : Nat) : Int)) && decide (((L + 1 : Nat) : Int) ≤ (lim : Int))) = true := by
      rw [decide_eq_true (by omega), decide_eq_true (by simp only [lim]; omega)]; rfl
    rw [gd_pos g1, toNat_nat]
    have q1 := fun κ => rnum_l c (.r [.s ByteArray.empty, .l [], .l [], .l [], .i 0, .i 0]) hf.o L (by omega) (fun o ho h => by have := labels_ok st.ops o ho h; omega) κ c.ops.length 0 NN [] (zeros L) (by omega) (by omega) (by have := le_NN; have := hf.o; omega) (by simp) (tab_zero L)
    rw [show ((0 : Nat) : Int) = 0 from rfl, List.drop_zero, show ((([] : List Int).length : Nat) : Int) = 0 from rfl] at q1
    obtain ⟨ys, hq, hy⟩ := q1 (fun y2 => (Gr00_CopyCode.f y2.1).bind fun r3 => Gr06_Renumber.l4090 NN y2.2.1 y2.2.2.1 (r3.1, r3.2.1, r3.2.2.1, r3.2.2.2.1, r3.2.2.2.2.1, y2.2.2.2, ()) 0 (fun y5 => some ((y5.2.1, y5.2.2.1, y5.2.2.2.1, y5.2.2.2.2.1, y5.2.2.2.2.2.1, y5.2.2.2.2.2.2.1, ()), 0)))
    refine Eq.trans hq ?_
    rw [copy_f c hf, Option.bind_some]
    have q2 := fun κ => rlabels_l c.s0 (c.data.map cpR) c.ops c.gl c.procs ((labR c.ops []).length : Int) (.r [.s ByteArray.empty, .l [], .l [], .l [], .i 0, .i 0]) ys L (labR c.ops []) hy hf.o (fun x hx => labOk hv hx hL) κ c.ops.length 0 NN (by omega) (by omega) (by have := le_NN; have := hf.o; omega)
    rw [show ((0 : Nat) : Int) = 0 from rfl, upTo_zero] at q2
    exact (q2 _).trans rfl
  · rw [bne_iff_ne.2 g, cond_true, if_neg g]; rfl
/-! ### code that is the same -/
structure Eqv (a b : D) : Prop where
  s : a.s0 = b.s0
  o : a.ops = b.ops
  g : a.gl = b.gl
  p : a.procs = b.procs
  l : a.labels = b.labels
  n : a.data.length = b.data.length
  d : ∀ i, i < a.data.length → (rd a.data i).s0 = (rd b.data i).s0 ∧ (rd a.data i).b1 = (rd b.data i).b1 ∧ (rd a.data i).l2 = (rd b.data i).l2
theorem eqops_l (l : List D) (hl : l.length ≤ 1000000) (κ : Unit → Option Bool) : ∀ (n i k : Nat), l.length - i = n → i ≤ l.length → n < k → Gr00_EqOps.l58 k l l (i : Int) κ = κ ()
  | 0, i, k, hn, hi, hk => by
    obtain ⟨k, rfl⟩ : ∃ m, k = m + 1 := ⟨k - 1, by omega⟩
    simp only [Gr00_EqOps.l58]
    rw [decide_eq_false (by omega)]
    rfl
  | n + 1, i, k, hn, hi, hk => by
    obtain ⟨k, rfl⟩ : ∃ m, k = m + 1 := ⟨k - 1, by omega⟩
    have g0 : inB (i : Int) l.length = true := inB_pos (by omega)
    simp only [Gr00_EqOps.l58, toNat_nat]
    rw [decide_eq_true (show (i : Int) < l.length by omega), cond_true, gd_pos g0, gd_pos g0]
    simp only [beq_self_eq_true, Bool.and_self, Bool.not_true, cond_false, w_succ i (show (i : Int) + 1 ≤ 9223372036854775807 by omega)]
    exact eqops_l l hl κ n (i + 1) k (by omega) (by omega) (by omega)
theorem eqops_self (l : List D) (hl : l.length ≤ 1000000) : Gr00_EqOps.f l l = some true := by
  unfold Gr00_EqOps.f
  rw [bne_self_eq_false, cond_false]
  exact eqops_l l hl _ l.length 0 NN (by omega) (by omega) (by have := le_NN; omega)
theorem eqdata_l (a b : D) (h : Eqv a b) (hf : Fine a) (κ : D × D → Option Bool) : ∀ (n i k : Nat), a.data.length - i = n → i ≤ a.data.length → n < k → Gr00_EqCode.l58 k a b (i : Int) κ = κ (a, b)
  | 0, i, k, hn, hi, hk => by
    obtain ⟨k, rfl⟩ : ∃ m, k = m + 1 := ⟨k - 1, by omega⟩
    have e0 : (a.cell 1).list.length = a.data.length := rfl
    simp only [Gr00_EqCode.l58]
    rw [decide_eq_false (by omega), cond_false]
  | n + 1, i, k, hn, hi, hk => by
    obtain ⟨k, rfl⟩ : ∃ m, k = m + 1 := ⟨k - 1, by omega⟩
    have hlt : i < a.data.length := by omega
    have hd := hf.d
    have hm := (hf.w _ (rd_mem hlt)).2
    have e0 : (a.cell 1).list.length = a.data.length := rfl
    have e1 : (b.cell 1).list.length = a.data.length := h.n.symm
    have g0 : inB (i : Int) (a.cell 1).list.length = true := inB_pos (by omega)
    have g1 : inB (i : Int) (b.cell 1).list.length = true := inB_pos (by omega)
    obtain ⟨h1, h2, h3⟩ := h.d i hlt
    have h1 : ((rd (a.cell 1).list i).cell 0).str = ((rd (b.cell 1).list i).cell 0).str := h1
    have h2 : ((rd (a.cell 1).list i).cell 1).bool = ((rd (b.cell 1).list i).cell 1).bool := h2
    have h3 : ((rd (a.cell 1).list i).cell 2).list = ((rd (b.cell 1).list i).cell 2).list := h3
    have hm : ((rd (a.cell 1).list i).cell 2).list.length ≤ 1000000 := hm
    have ih := eqdata_l a b h hf κ n (i + 1) k (by omega) (by omega) (by omega)
    simp only [Gr00_EqCode.l58, toNat_nat]
    rw [decide_eq_true (show (i : Int) < ((a.cell 1).list.length : Int) by omega), cond_true, gd_pos g0, gd_pos g1, g0, g1, h1, h2, h3]
    rw [h3] at hm
    simp only [beq_self_eq_true, Bool.or_true, Bool.not_true, Bool.or_self, Bool.not_false, cond_true, eqints_self _ hm, Option.bind_some, cond_false, gd, w_succ i (show (i : Int) + 1 ≤ 9223372036854775807 by omega)]
    exact ih
theorem eqgl_l (a b : D) (h : Eqv a b) (hf : Fine a) (κ : D × D → Option Bool) : ∀ (n i k : Nat), a.gl.length - i = n → i ≤ a.gl.length → n < k → Gr00_EqCode.l122 k a b (i : Int) κ = κ (a, b)
  | 0, i, k, hn, hi, hk => by
    obtain ⟨k, rfl⟩ : ∃ m, k = m + 1 := ⟨k - 1, by omega⟩
    have e0 : (a.cell 3).list.length = a.gl.length := rfl
    simp only [Gr00_EqCode.l122]
    rw [decide_eq_false (by omega), cond_false]
  | n + 1, i, k, hn, hi, hk => by
    obtain ⟨k, rfl⟩ : ∃ m, k = m + 1 := ⟨k - 1, by omega⟩
    have hlt : i < a.gl.length := by omega
    have hd := hf.g
    have e0 : (a.cell 3).list.length = a.gl.length := rfl
    have e1 : (b.cell 3).list = (a.cell 3).list := h.g.symm
    have g0 : inB (i : Int) (a.cell 3).list.length = true := inB_pos (by omega)
    have ih := eqgl_l a b h hf κ n (i + 1) k (by omega) (by omega) (by omega)
    simp only [Gr00_EqCode.l122, toNat_nat, e1]
    rw [decide_eq_true (show (i : Int) < ((a.cell 3).list.length : Int) by omega), cond_true, gd_pos g0, gd_pos g0]
    simp only [beq_self_eq_true, Bool.and_self, Bool.not_true, cond_false, w_succ i (show (i : Int) + 1 ≤ 9223372036854775807 by omega)]
    exact ih
theorem eqcode_f (a b : D) (h : Eqv a b) (hf : Fine a) : Gr00_EqCode.f a b = some true := by
  unfold Gr00_EqCode.f
  have s1 : (a.cell 0).str = (b.cell 0).str := h.s
  have s2 : (a.cell 4).int = (b.cell 4).int := h.p
  have s3 : (a.cell 5).int = (b.cell 5).int := h.l
  have s4 : (a.cell 1).list.length = (b.cell 1).list.length := h.n
  have s5 : (a.cell 3).list = (b.cell 3).list := h.g
  have s6 : (b.cell 2).list = (a.cell 2).list := h.o.symm
  have q1 := fun κ => eqdata_l a b h hf κ a.data.length 0 NN (by omega) (by omega) (by have := le_NN; have := hf.d; omega)
  have q2 := fun κ => eqgl_l a b h hf κ a.gl.length 0 NN (by omega) (by omega) (by have := le_NN; have := hf.g; omega)
  rw [show ((0 : Nat) : Int) = 0 from rfl] at q1 q2
  have q3 : Gr00_EqOps.f (a.cell 2).list (b.cell 2).list = some true := by rw [s6]; exact eqops_self _ hf.o
  simp only [q1, q2, q3, s1, s2, s3, s4, s5]
  simp
/-! ### the law -/
theorem toD_fine {x : CodeT} (h1 : x.1.size ≤ 1000000) (h2 : x.2.2.1.length ≤ 1000000) (h3 : x.2.2.2.1.length ≤ 1000000) (h4 : x.2.1.length ≤ 1000000) (h5 : ∀ d ∈ x.2.1, d.s0.size ≤ 1000000 ∧ d.l2.length ≤ 1000000) : Fine (toD x) := ⟨h1, h2, h3, h4, h5⟩
theorem ren_fine {c : D} (hf : Fine c) : Fine (toD (renC c)) := by
  refine toD_fine hf.n (by simp only [renC, List.length_map]; exact hf.o) hf.g (by simp only [renC, List.length_map]; exact hf.d) fun d hd => ?_
  obtain ⟨d', h1, rfl⟩ := List.mem_map.1 hd
  exact hf.w d' h1
theorem rd_map (f : D → D) (l : List D) {i : Nat} (hi : i < l.length) : rd (l.map f) i = f (rd l i) := by
  have h1 := rd_get (xs := l.map f) (i := i) (by simpa using hi)
  have h2 := rd_get hi
  rw [List.getElem?_map, h2] at h1
  exact (Option.some.inj h1).symm
theorem ren_eqv (c : D) : Eqv (toD (renC c)) (toD (renC' c)) := by
  refine ⟨rfl, rfl, rfl, rfl, rfl, by show (c.data.map cpD).length = (c.data.map cpR).length; simp, fun i hi => ?_⟩
  have hi' : i < c.data.length := by
    have : (toD (renC c)).data = c.data.map cpD := rfl
    rw [this] at hi; simpa using hi
  show (rd (c.data.map cpD) i).s0 = (rd (c.data.map cpR) i).s0 ∧ (rd (c.data.map cpD) i).b1 = (rd (c.data.map cpR) i).b1 ∧ (rd (c.data.map cpD) i).l2 = (rd (c.data.map cpR) i).l2
  rw [rd_map cpD _ hi', rd_map cpR _ hi']
  exact ⟨rfl, rfl, rfl⟩
theorem no_fine : Fine (toD noC) := toD_fine (by decide) (by decide) (by decide) (by decide) fun d hd => by cases hd
theorem no_eqv : Eqv (toD noC) (toD noC) := ⟨rfl, rfl, rfl, rfl, rfl, rfl, fun _ _ => ⟨rfl, rfl, rfl⟩⟩
theorem numbers_pure (c : D) (hw : Wide c) : Gw06_OcodeNumbers.f c = some true := by
  obtain ⟨b, hb, hf⟩ := heavy_f c hw
  unfold Gw06_OcodeNumbers.f
  rw [hb, Option.bind_some]
  cases b with
  | true => rw [cond_true, awake_f]; rfl
  | false =>
    obtain ⟨hf, -⟩ := hf rfl
    rw [cond_false, renumber_f c hf, Option.bind_some, rrenumber_ref c hf, Option.bind_some]
    by_cases g : checkI c = 0
    · have e := eqcode_f _ _ (ren_eqv c) (ren_fine hf)
      simp only [toD] at e
      unfold renR renR'
      rw [if_pos g, if_pos g, e, Option.bind_some]
      simp only [beq_self_eq_true, Bool.and_self, cond_true, awake_f, Option.bind_some]
    · have e := eqcode_f _ _ no_eqv no_fine
      simp only [toD] at e
      unfold renR renR'
      rw [if_neg g, if_neg g, e, Option.bind_some]
      simp only [beq_self_eq_true, Bool.and_self, cond_true, awake_f, Option.bind_some]
end Go.Pv

namespace Go.Pv
open Go.Proofs Go.Proofs.Ytkmcanknbdaliaa.Lx
set_option maxRecDepth 20000
set_option linter.unusedSimpArgs false
/-! ### the numbers of labels -/
theorem nuR_pos : ∀ {r : List Int} {x : Int}, x ∈ r → 1 ≤ nuR r x ∧ nuR r x ≤ r.length
  | [], x, h => by cases h
  | y :: r, x, h => by
    simp only [nuR, List.length_cons]
    by_cases e : x = y
    · rw [if_pos e]; omega
    · rw [if_neg e]
      have := nuR_pos (r := r) ((List.mem_cons.1 h).resolve_left e)
      omega
theorem nuR_inj : ∀ {r : List Int}, r.Nodup → ∀ {x y : Int}, x ∈ r → y ∈ r → nuR r x = nuR r y → x = y
  | [], _, x, y, h, _, _ => by cases h
  | z :: r, hd, x, y, hx, hy, h => by
    rw [List.nodup_cons] at hd
    simp only [nuR] at h
    by_cases e1 : x = z
    · by_cases e2 : y = z
      · rw [e1, e2]
      · rw [if_pos e1, if_neg e2] at h
        have := (nuR_pos ((List.mem_cons.1 hy).resolve_left e2)).2
        omega
    · by_cases e2 : y = z
      · rw [if_neg e1, if_pos e2] at h
        have := (nuR_pos ((List.mem_cons.1 hx).resolve_left e1)).2
        omega
      · rw [if_neg e1, if_neg e2] at h
        exact nuR_inj hd.2 ((List.mem_cons.1 hx).resolve_left e1) ((List.mem_cons.1 hy).resolve_left e2) h
theorem nuR_app (x : Int) (s : List Int) : ∀ t : List Int, x ∉ t → nuR (t ++ x :: s) x = (s.length : Int) + 1
  | [], _ => by simp [nuR]
  | y :: t, h => by
    simp only [List.cons_append, nuR]
    rw [if_neg (fun e => h (by rw [e]; exact List.mem_cons_self ..))]
    exact nuR_app x s t fun h' => h (List.mem_cons_of_mem _ h')
theorem labR_app : ∀ (l : List Op) (s : List Int), ∃ t, labR l s = t ++ s
  | [], s => ⟨[], rfl⟩
  | o :: l, s => by
    rw [labR]
    by_cases h : o.f0 = 19
    · rw [if_pos h]
      obtain ⟨t, ht⟩ := labR_app l (o.f1 :: s)
      exact ⟨t ++ [o.f1], by rw [ht]; simp⟩
    · rw [if_neg h]; exact labR_app l s
theorem labR_mem {l : List Op} {s : List Int} {x : Int} (h : x ∈ s) : x ∈ labR l s := by
  obtain ⟨t, ht⟩ := labR_app l s
  rw [ht]; exact List.mem_append_right _ h
theorem labR_op : ∀ {l : List Op} {s : List Int} {o : Op}, o ∈ l → o.f0 = 19 → o.f1 ∈ labR l s
  | o' :: l, s, o, h, h19 => by
    rw [labR]
    rcases List.mem_cons.1 h with e | h
    · subst e
      rw [if_pos h19]; exact labR_mem (List.mem_cons_self ..)
    · exact labR_op h h19
theorem labR_from : ∀ {l : List Op} {s : List Int} {x : Int}, x ∈ labR l s → x ∈ s ∨ ∃ o ∈ l, o.f0 = 19 ∧ o.f1 = x
  | [], s, x, h => .inl h
  | o :: l, s, x, h => by
    rw [labR] at h
    rcases labR_from h with h | ⟨o', h1, h2⟩
    · by_cases e : o.f0 = 19
      · rw [if_pos e] at h
        rcases List.mem_cons.1 h with h | h
        · exact .inr ⟨o, List.mem_cons_self .., e, h.symm⟩
        · exact .inl h
      · rw [if_neg e] at h; exact .inl h
    · exact .inr ⟨o', List.mem_cons_of_mem _ h1, h2⟩
/-! ### one instruction -/
abbrev M6 (o : Op) : Prop := o.f0 = 20 ∨ o.f0 = 21 ∨ o.f0 = 22 ∨ o.f0 = 27 ∨ o.f0 = 29
structure LabIn (r : List Int) (o : Op) : Prop where
  pos : ∀ x ∈ r, 1 ≤ x
  c19 : o.f0 = 19 → o.f1 ∈ r
  nam : M6 o → o.f1 ∈ r
  c30 : o.f0 = 30 → o.f2 ∈ r
theorem named_m6 {o : Op} (h : M6 o) : namedI o = o.f1 := by unfold namedI; rw [if_pos h]
theorem named_no {o : Op} (h : ¬ M6 o) (h2 : o.f0 ≠ 30) : namedI o = 0 := by unfold namedI; rw [if_neg h, if_neg h2]
theorem named_in {r : List Int} {o : Op} (h : LabIn r o) (hn : namedI o > 0) : namedI o ∈ r := by
  by_cases e : o.f0 = 30
  · rw [named_30 e]; exact h.c30 e
  · have := named_6 hn e
    rw [named_m6 this]; exact h.nam this
theorem relab_f0 (r : List Int) (o : Op) : (relab r o).f0 = o.f0 := by
  unfold relab
  split
  · rfl
  · split <;> rfl
theorem relab_f2 (r : List Int) {o : Op} (h : o.f0 ≠ 30) : (relab r o).f2 = o.f2 := by
  unfold relab
  rw [if_neg h]
  split <;> rfl
theorem relab_f2' (r : List Int) {o : Op} (h : o.f0 = 30) : (relab r o).f2 = nuR r o.f2 := by
  unfold relab
  rw [if_pos h]; rfl
theorem relab_f1 (r : List Int) {o : Op} (h : ¬ M6 o) (h2 : o.f0 ≠ 19) : (relab r o).f1 = o.f1 := by
  unfold relab
  by_cases e : o.f0 = 30
  · rw [if_pos e]; rfl
  · rw [if_neg e, if_neg]
    rintro (h3 | h3)
    · exact h2 h3
    · exact h (named_6 h3 e)
theorem relab_f1' {r : List Int} {o : Op} (hl : LabIn r o) (h : M6 o ∨ o.f0 = 19) : (relab r o).f1 = nuR r o.f1 := by
  have e : o.f0 ≠ 30 := by rcases h with (h | h | h | h | h) | h <;> rw [h] <;> decide
  unfold relab
  rw [if_neg e, if_pos]
  · rfl
  · rcases h with h | h
    · have := hl.pos _ (hl.nam h)
      exact .inr (by rw [named_m6 h]; omega)
    · exact .inl h
theorem relab_m6 {r : List Int} {o : Op} : M6 (relab r o) ↔ M6 o := by unfold M6; rw [relab_f0]
theorem named_relab {r : List Int} {o : Op} (hl : LabIn r o) : (namedI o > 0 → namedI (relab r o) = nuR r (namedI o)) ∧ (¬ namedI o > 0 → namedI (relab r o) = namedI o) := by
  by_cases h : M6 o
  · have := hl.pos _ (hl.nam h)
    rw [named_m6 h, named_m6 (relab_m6.2 h), relab_f1' hl (.inl h)]
    exact ⟨fun _ => rfl, fun h => absurd this (by omega)⟩
  · by_cases e : o.f0 = 30
    · have := hl.pos _ (hl.c30 e)
      rw [named_30 e, named_30 ((relab_f0 r o).trans e), relab_f2' r e]
      exact ⟨fun _ => rfl, fun h => absurd this (by omega)⟩
    · rw [named_no h e, named_no (fun h' => h (relab_m6.1 h')) (by rw [relab_f0]; exact e)]
      exact ⟨fun h => absurd h (by omega), fun _ => rfl⟩
theorem named_gt {r : List Int} {o : Op} (hl : LabIn r o) : (namedI (relab r o) > 0) ↔ namedI o > 0 := by
  obtain ⟨h1, h2⟩ := named_relab hl
  by_cases h : namedI o > 0
  · have := (nuR_pos (named_in hl h)).1
    rw [h1 h]; constructor
    · intro _; exact h
    · intro _; omega
  · rw [h2 h]
theorem fits_relab {r : List Int} {o : Op} (d : Int) (x : D) (b : Bool) : fitsB (relab r o) d x b = fitsB o d x b := by
  unfold fitsB
  rw [relab_f0]
  by_cases h : M6 o ∨ o.f0 = 19
  · rcases h with (h | h | h | h | h) | h <;> simp [h]
  · rw [relab_f1 r (fun h' => h (.inl h')) (fun h' => h (.inr h'))]
theorem after_relab {r : List Int} {o : Op} (d : Int) (x : D) : afterI (relab r o) d x = afterI o d x := by
  unfold afterI
  rw [relab_f0]
  by_cases h : M6 o ∨ o.f0 = 19
  · rcases h with (h | h | h | h | h) | h <;> simp [h]
  · rw [relab_f1 r (fun h' => h (.inl h')) (fun h' => h (.inr h'))]
    by_cases e : o.f0 = 30
    · simp [e]
    · rw [relab_f2 r e]
/-! ### the order of instructions -/
theorem f0_map (r : List Int) (l : List Op) (i : Nat) : (opAt (l.map (relab r)) i).f0 = (opAt l i).f0 := by
  by_cases h : i < l.length
  · show (rd (l.map (relab r)) i).f0 = _
    rw [rd_map _ _ h, relab_f0]
  · show (rd (l.map (relab r)) i).f0 = (rd l i).f0
    rw [rd_out _ _ (by simp; omega), rd_out _ _ (by omega)]
theorem f2_map (r : List Int) (l : List Op) (i : Nat) (h30 : (opAt l i).f0 ≠ 30) : (opAt (l.map (relab r)) i).f2 = (opAt l i).f2 := by
  by_cases h : i < l.length
  · show (rd (l.map (relab r)) i).f2 = _
    rw [rd_map _ _ h, relab_f2 r h30]
  · show (rd (l.map (relab r)) i).f2 = (rd l i).f2
    rw [rd_out _ _ (by simp; omega), rd_out _ _ (by omega)]
theorem ends_map (r : List Int) (l : List Op) (i : Nat) : endsB (l.map (relab r)) i = endsB l i := by
  unfold endsB
  rw [f0_map, f0_map, List.length_map]
  by_cases h : (opAt l i).f0 = 30
  · simp [h]
  · rw [f2_map r l i h]
theorem cases_map (r : List Int) (l : List Op) : ∀ (n i : Nat), casesB (l.map (relab r)) i n = casesB l i n
  | 0, i => rfl
  | n + 1, i => by simp only [casesB, f0_map, List.length_map, cases_map r l n]
theorem last_map (r : List Int) (l : List Op) (i : Nat) : lastOk (l.map (relab r)) i = lastOk l i := by
  unfold lastOk; rw [f0_map, List.length_map, ends_map]
theorem label_map (r : List Int) (l : List Op) (i : Nat) : labelOk (l.map (relab r)) i = labelOk l i := by
  unfold labelOk; rw [f0_map, List.length_map]
theorem order_map (r : List Int) (l : List Op) : ∀ (n i : Nat), l.length - i ≤ n → orderGo (l.map (relab r)) i = orderGo l i
  | 0, i, hn => by
    rw [orderGo]
    conv => rhs; rw [orderGo]
    rw [List.length_map, if_neg (by omega), if_neg (by omega), f0_map]
  | n + 1, i, hn => by
    rw [orderGo]
    conv => rhs; rw [orderGo]
    simp only [List.length_map, f0_map, label_map, last_map]
    by_cases hi : i < l.length
    · rw [if_pos hi, if_pos hi]
      have ih := fun j (h1 : i < j) => order_map r l n j (by omega)
      by_cases e : (opAt l i).f0 = 29
      · rw [if_pos e, if_pos e, f2_map r l i (by rw [e]; decide), cases_map, ih _ (by omega)]
      · rw [if_neg e, if_neg e, ih _ (by omega)]
    · rw [if_neg hi, if_neg hi]
theorem leads_map (r : List Int) : ∀ (l : List Op) (i : Nat), leadsL (l.map (relab r)) i = leadsL l i
  | [], i => rfl
  | o :: l, i => by
    rw [List.map_cons, leadsL, leadsL, relab_f0, leads_map r l]
theorem lead_map (r : List Int) (l : List Op) (i : Nat) : (leadOp (l.map (relab r)) i).f0 = (leadOp l i).f0 := by
  unfold leadOp
  rw [← List.map_drop, leads_map, f0_map]
/-! ### places -/
def PlRel (r : List Int) (xs xs' : List D) : Prop := ∀ x ∈ r, rd xs' (nuR r x).toNat = rd xs x.toNat
theorem plRel_set {r : List Int} (hd : r.Nodup) (hp : ∀ x ∈ r, 1 ≤ x) {L : Nat} (hL : ∀ x ∈ r, x ≤ L) {xs xs' : List D} (h1 : xs.length = L + 1) (h2 : xs'.length = r.length + 1) (h : PlRel r xs xs') {y : Int} (hy : y ∈ r) (v : D) : PlRel r (xs.set y.toNat v) (xs'.set (nuR r y).toNat v) := by
  intro x hx
  rw [rd_setI, rd_setI]
  have a1 := hp x hx
  have a2 := hp y hy
  have a3 := hL y hy
  have a4 := nuR_pos hx
  have a5 := nuR_pos hy
  by_cases e : x = y
  · subst e
    rw [if_pos ⟨rfl, by omega⟩, if_pos ⟨rfl, by omega⟩]
  · rw [if_neg (fun h' => e (nuR_inj hd hx hy (by omega))), if_neg (fun h' => e (by omega))]
    exact h x hx
def lastL : List Op → Int → Int
  | [], q => q
  | o :: l, q => lastL l (if o.f0 = 19 then mx q o.f1 else q)
theorem places_map {r : List Int} (hd : r.Nodup) (hp : ∀ x ∈ r, 1 ≤ x) {L : Nat} (hL : ∀ x ∈ r, x ≤ L) : ∀ (l : List Op) (i : Nat) (p q q' : Int) (xs ys xs' ys' : List D) (z : List D × List D × Int × Int), placL l i p q xs ys = some z → (∀ o ∈ l, LabIn r o) →
    xs.length = L + 1 → ys.length = L + 1 → xs'.length = r.length + 1 → ys'.length = r.length + 1 → PlRel r xs xs' → PlRel r ys ys' →
    ∃ z', placL (l.map (relab r)) i p q' xs' ys' = some z' ∧ PlRel r z.1 z'.1 ∧ PlRel r z.2.1 z'.2.1 ∧ z'.2.2.1 = z.2.2.1 ∧ z'.2.2.2 = lastL (l.map (relab r)) q'
  | [], i, p, q, q', xs, ys, xs', ys', z, h, hl, l1, l2, l3, l4, r1, r2 => by
    simp only [placL, Option.some.injEq] at h
    subst h
    exact ⟨_, rfl, r1, r2, rfl, rfl⟩
  | o :: l, i, p, q, q', xs, ys, xs', ys', z, h, hl, l1, l2, l3, l4, r1, r2 => by
    have ho := hl o (List.mem_cons_self ..)
    have hl' : ∀ o ∈ l, LabIn r o := fun o h => hl o (List.mem_cons_of_mem _ h)
    rw [placL] at h
    rw [List.map_cons, placL, lastL, relab_f0]
    by_cases e1 : o.f0 = 24
    · rw [if_pos e1] at h ⊢
      rw [relab_f1 r (by unfold M6; omega) (by omega), if_neg (show ¬ o.f0 = 19 by omega)]
      by_cases e2 : o.f1 = p + 1
      · rw [if_pos e2] at h ⊢
        exact places_map hd hp hL l _ _ _ _ _ _ _ _ _ h hl' l1 l2 l3 l4 r1 r2
      · rw [if_neg e2] at h; exact absurd h (by simp)
    · rw [if_neg e1] at h ⊢
      by_cases e2 : o.f0 = 19
      · rw [if_pos e2] at h ⊢
        have hm := ho.c19 e2
        rw [relab_f1' ho (.inr e2), if_pos e2, r2 _ hm]
        by_cases e3 : (rd ys o.f1.toNat).int ≠ 0 ∨ p = 0
        · rw [if_pos e3] at h; exact absurd h (by simp)
        · rw [if_neg e3] at h ⊢
          exact places_map hd hp hL l _ _ _ _ _ _ _ _ _ h hl' (by simpa using l1) (by simpa using l2) (by simpa using l3) (by simpa using l4) (plRel_set hd hp hL l1 l3 r1 hm _) (plRel_set hd hp hL l2 l4 r2 hm _)
      · rw [if_neg e2] at h ⊢
        rw [if_neg e2]
        exact places_map hd hp hL l _ _ _ _ _ _ _ _ _ h hl' l1 l2 l3 l4 r1 r2
theorem last_len {r : List Int} (hd : r.Nodup) : ∀ (l : List Op) (s : List Int), labR l s = r → (∀ o ∈ l, LabIn r o) → lastL (l.map (relab r)) (s.length : Int) = (r.length : Int)
  | [], s, h, hl => by rw [← h]; rfl
  | o :: l, s, h, hl => by
    have ho := hl o (List.mem_cons_self ..)
    have hl' : ∀ o ∈ l, LabIn r o := fun o h => hl o (List.mem_cons_of_mem _ h)
    rw [labR] at h
    rw [List.map_cons, lastL, relab_f0]
    by_cases e : o.f0 = 19
    · rw [if_pos e] at h ⊢
      obtain ⟨t, ht⟩ := labR_app l (o.f1 :: s)
      rw [h] at ht
      have hx : o.f1 ∉ t := by
        intro hm
        rw [ht] at hd
        exact (List.nodup_append.1 hd).2.2 _ hm _ (List.mem_cons_self ..) rfl
      rw [relab_f1' ho (.inr e)]
      have hn : nuR r o.f1 = (s.length : Int) + 1 := by rw [ht]; exact nuR_app _ _ _ hx
      have := last_len hd l (o.f1 :: s) h hl'
      rw [List.length_cons] at this
      rw [hn, ← this]
      congr 1
      unfold mx
      rw [if_pos (by omega)]; simp
    · rw [if_neg e] at h ⊢
      exact last_len hd l s h hl'
theorem placL_at : ∀ (l : List Op) (i : Nat) (p q : Int) (xs ys : List D) (s : List Int) (z : List D × List D × Int × Int), placL l i p q xs ys = some z → (∀ o ∈ l, o.f0 = 19 → 0 ≤ o.f1) → ∀ x : Int, 0 ≤ x → x ∉ labR l s → rd z.1 x.toNat = rd xs x.toNat
  | [], i, p, q, xs, ys, s, z, h, hl, x, h0, hx => by
    simp only [placL, Option.some.injEq] at h
    subst h; rfl
  | o :: l, i, p, q, xs, ys, s, z, h, hl, x, h0, hx => by
    have hl' : ∀ o ∈ l, o.f0 = 19 → 0 ≤ o.f1 := fun o h => hl o (List.mem_cons_of_mem _ h)
    rw [placL] at h
    rw [labR] at hx
    by_cases e1 : o.f0 = 24
    · rw [if_pos e1] at h
      rw [if_neg (by omega)] at hx
      by_cases e2 : o.f1 = p + 1
      · rw [if_pos e2] at h
        exact placL_at l _ _ _ _ _ _ _ h hl' x h0 hx
      · rw [if_neg e2] at h; exact absurd h (by simp)
    · rw [if_neg e1] at h
      by_cases e2 : o.f0 = 19
      · rw [if_pos e2] at h hx
        by_cases e3 : (rd ys o.f1.toNat).int ≠ 0 ∨ p = 0
        · rw [if_pos e3] at h; exact absurd h (by simp)
        · rw [if_neg e3] at h
          rw [placL_at l _ _ _ _ _ _ _ h hl' x h0 hx, rd_setI, if_neg]
          intro h'
          have := hl o (List.mem_cons_self ..) e2
          exact hx (by rw [show x = o.f1 by omega]; exact labR_mem (List.mem_cons_self ..))
      · rw [if_neg e2] at h hx
        exact placL_at l _ _ _ _ _ _ _ h hl' x h0 hx
theorem rd_zeros (n k : Nat) : rd (zeros n) k = .i 0 := by
  by_cases h : k < (zeros n).length
  · exact List.eq_of_mem_replicate (rd_mem h)
  · exact rd_out _ _ (by omega)
/-! ### valid code stays valid -/
abbrev labs (c : D) : List Int := labR c.ops []
theorem labs_bd {c : D} (hv : Valid c) : ∀ x ∈ labs c, 1 ≤ x ∧ x ≤ c.labels := by
  intro x hx
  rcases labR_from hx with h | ⟨o, h1, h2, rfl⟩
  · cases h
  · exact opOk_lab (List.all_eq_true.1 hv.st.ops o h1) (kind6 _ (.inl h2))
structure Pl (c : D) (z : List D × List D × Int × Int) : Prop where
  eq : placL c.ops 0 0 0 (zeros c.labels.toNat) (zeros c.labels.toNat) = some z
  p : z.2.2.1 = c.procs
  q : z.2.2.2 = c.labels
theorem pl_of {c : D} (hp : (placR c).2.2 = true) : ∃ z, Pl c z ∧ (placR c).1 = z.1 ∧ (placR c).2.1 = z.2.1 := by
  unfold placR at hp ⊢
  cases hr : placL c.ops 0 0 0 (zeros c.labels.toNat) (zeros c.labels.toNat) with
  | none => rw [hr] at hp; exact absurd hp (by simp [placFin])
  | some z =>
    rw [hr] at hp
    have := and2 (show ((z.2.2.1 == c.procs) && (z.2.2.2 == c.labels)) = true from hp)
    exact ⟨z, ⟨hr, beq_iff_eq.1 this.1, beq_iff_eq.1 this.2⟩, rfl, rfl⟩
theorem pl_to {c : D} {z : List D × List D × Int × Int} (h : Pl c z) : placR c = (z.1, z.2.1, true) := by
  unfold placR
  rw [h.eq]
  show (z.1, z.2.1, (z.2.2.1 == c.procs) && (z.2.2.2 == c.labels)) = _
  rw [h.p, h.q]; simp
structure Coded (c : D) : Prop where
  name : (quoteR c.s0).2 = 0
  p : 0 ≤ c.procs
  l : 0 ≤ c.labels
  ops : c.ops.all (opOk c) = true
  pl : (placR c).2.2 = true
  ord : orderB c.ops = true
  areas : areasB c = true
  names : namesB (placR c).1 (placR c).2.1 c.ops 0 = true
theorem coded_iff {c : D} : codedB c = true ↔ Coded c := by
  unfold codedB
  simp only [Bool.and_eq_true, decide_eq_true_eq]
  constructor
  · rintro ⟨⟨⟨⟨⟨⟨⟨h1, h2⟩, h3⟩, h4⟩, h5⟩, h6⟩, h7⟩, h8⟩; exact ⟨h1, h2, h3, h4, h5, h6, h7, h8⟩
  · rintro ⟨h1, h2, h3, h4, h5, h6, h7, h8⟩; exact ⟨⟨⟨⟨⟨⟨⟨h1, h2⟩, h3⟩, h4⟩, h5⟩, h6⟩, h7⟩, h8⟩
theorem named_lab {c : D} (hv : Valid c) {o : Op} (ho : o ∈ c.ops) (hn : namedI o > 0) : namedI o ∈ labs c := by
  have hc := coded_iff.1 hv.coded
  obtain ⟨z, hz, e1, -⟩ := pl_of hc.pl
  have h1 := names_at c.ops 0 hc.names o ho hn
  rw [e1] at h1
  by_cases hm : namedI o ∈ labs c
  · exact hm
  · exfalso
    apply h1
    unfold ri
    rw [placL_at _ _ _ _ _ _ [] _ hz.eq (fun o ho h => (labels_ok hc.ops o ho h).1) _ (by omega) hm, rd_zeros]; rfl
theorem labIn {c : D} (hv : Valid c) {o : Op} (ho : o ∈ c.ops) : LabIn (labs c) o := by
  have hk := List.all_eq_true.1 hv.st.ops o ho
  refine ⟨fun x hx => (labs_bd hv x hx).1, fun h => labR_op ho h, fun h => ?_, fun h => ?_⟩
  · have := (opOk_lab hk (kind6 _ (.inr h))).1
    have h2 := named_lab hv ho (by rw [named_m6 h]; omega)
    rwa [named_m6 h] at h2
  · have h3 := (and2 (opOk_num hk)).2
    rw [if_neg (by rw [h]; decide), if_neg (by rw [h]; decide), if_pos h] at h3
    have := (inIv_iff.1 h3).1
    have h2 := named_lab hv ho (by rw [named_30 h]; omega)
    rwa [named_30 h] at h2
theorem kind6_inv (n : Int) (h0 : 1 ≤ n) (h1 : n < 31) (h : (kindAt n).f1 = 6) : n = 19 ∨ n = 20 ∨ n = 21 ∨ n = 22 ∨ n = 27 ∨ n = 29 := by
  have k : (List.range 31).all (fun n => !((kindAt (n : Nat)).f1 == 6) || (Nat.beq n 19 || Nat.beq n 20 || Nat.beq n 21 || Nat.beq n 22 || Nat.beq n 27 || Nat.beq n 29)) = true := by kernel_rfl
  have k1 := List.all_eq_true.1 k n.toNat (List.mem_range.2 (by omega))
  rw [show ((n.toNat : Nat) : Int) = n by omega, h] at k1
  simp only [beq_self_eq_true, Bool.not_true, Bool.false_or, Bool.or_eq_true, Nat.beq_eq] at k1
  omega
abbrev ren (c : D) : D := toD (renC c)
theorem ren_data (c : D) : (ren c).data.length = c.data.length := by show (c.data.map cpD).length = _; simp
theorem opOk_ren {c : D} (hv : Valid c) {o : Op} (ho : o ∈ c.ops) : opOk (ren c) (relab (labs c) o) = true := by
  have hk := List.all_eq_true.1 hv.st.ops o ho
  have hl := labIn hv ho
  unfold opOk at hk ⊢
  rw [relab_f0]
  simp only [Bool.and_eq_true, decide_eq_true_eq] at hk ⊢
  obtain ⟨⟨h1, h2⟩, h3⟩ := hk
  refine ⟨⟨h1, h2⟩, ?_⟩
  unfold numbersB at h3 ⊢
  simp only [Bool.and_eq_true] at h3 ⊢
  obtain ⟨h4, h5⟩ := h3
  have eL : (ren c).labels = ((labs c).length : Int) := rfl
  have eP : (ren c).procs = c.procs := rfl
  constructor
  · by_cases h6 : (kindAt o.f0).f1 = 6
    · have hx := kind6_inv _ h1 h2 h6
      have hs : M6 o ∨ o.f0 = 19 := hx.elim .inr .inl
      have hm : o.f1 ∈ labs c := hs.elim hl.nam hl.c19
      rw [h6]
      unfold numOk
      rw [relab_f1' hl hs]
      show inIv (nuR (labs c) o.f1) 1 (ren c).labels = true
      rw [eL]
      exact inIv_iff.2 (nuR_pos hm)
    · have hn : ¬ (M6 o ∨ o.f0 = 19) := fun h => h6 (kind6 _ (h.elim .inr .inl))
      rw [show numOk (relab (labs c) o) (ren c) (kindAt o.f0).f1 = numOk o c (kindAt o.f0).f1 by
        unfold numOk
        rw [relab_f1 _ (fun h' => hn (.inl h')) (fun h' => hn (.inr h')), ren_data, eP, if_neg h6, if_neg h6]]
      exact h4
  · rw [relab_f0]
    by_cases e : o.f0 = 30
    · rw [if_neg (by rw [e]; decide), if_neg (by rw [e]; decide), if_pos e, relab_f2' _ e, eL]
      exact inIv_iff.2 (nuR_pos (hl.c30 e))
    · rw [relab_f2 _ e]
      rw [if_neg e] at h5 ⊢
      exact h5
theorem names_map {r : List Int} {xs ys xs' ys' : List D} (r1 : PlRel r xs xs') (r2 : PlRel r ys ys') : ∀ (l : List Op) (p : Int), (∀ o ∈ l, LabIn r o) → namesB xs' ys' (l.map (relab r)) p = namesB xs ys l p
  | [], p, hl => rfl
  | o :: l, p, hl => by
    have ho := hl o (List.mem_cons_self ..)
    have hl' : ∀ o ∈ l, LabIn r o := fun o h => hl o (List.mem_cons_of_mem _ h)
    have e : (if o.f0 = 24 then (relab r o).f1 else p) = (if o.f0 = 24 then o.f1 else p) := by
      by_cases e1 : o.f0 = 24
      · rw [relab_f1 r (by unfold M6; omega) (by omega)]
      · rw [if_neg e1, if_neg e1]
    rw [List.map_cons, namesB, namesB, relab_f0, e, names_map r1 r2 l _ hl']
    generalize (if o.f0 = 24 then o.f1 else p) = p'
    by_cases hn : namedI o > 0
    · have hm := named_in ho hn
      have hp := (nuR_pos hm).1
      rw [(named_relab ho).1 hn, r1 _ hm, r2 _ hm]
      by_cases h : ((rd ys (namedI o).toNat).int ≠ p' ∨ (rd xs (namedI o).toNat).int = 0)
      · rw [if_pos ⟨by omega, h⟩, if_pos ⟨hn, h⟩]
      · rw [if_neg (fun h' => h h'.2), if_neg (fun h' => h h'.2)]
    · rw [if_neg (fun h' => hn ((named_gt ho).1 h'.1)), if_neg (fun h' => hn h'.1)]
theorem round_map {r : List Int} {xs xs' : List D} (r1 : PlRel r xs xs') {l : List Op} (hl : ∀ o ∈ l, LabIn r o) {i : Nat} (hi : i < l.length) (d : Int) : roundOk (l.map (relab r)) xs' i d = roundOk l xs i d := by
  have ho : LabIn r (opAt l i) := hl _ (rd_mem hi)
  have eo : opAt (l.map (relab r)) i = relab r (opAt l i) := rd_map _ _ hi
  unfold roundOk
  rw [f0_map, f0_map, eo, fits_relab, after_relab]
  have e1 : jumpOk (l.map (relab r)) xs' (relab r (opAt l i)) = jumpOk l xs (opAt l i) := by
    unfold jumpOk
    rw [relab_f0]
    by_cases hn : namedI (opAt l i) > 0
    · have hm := named_in ho hn
      have hp := (nuR_pos hm).1
      rw [(named_relab ho).1 hn, r1 _ hm, lead_map, decide_eq_true hn, decide_eq_true (show nuR r (namedI (opAt l i)) > 0 by omega)]
    · rw [decide_eq_false hn, decide_eq_false (fun h => hn ((named_gt ho).1 h))]; rfl
  have e2 : fallOk (l.map (relab r)) i (relab r (opAt l i)) = fallOk l i (opAt l i) := by
    unfold fallOk
    rw [relab_f0, ends_map, List.length_map, lead_map]
  rw [e1, e2]
theorem stack_map {r : List Int} {xs xs' : List D} (r1 : PlRel r xs xs') {l : List Op} (hl : ∀ o ∈ l, LabIn r o) : ∀ (n i : Nat) (d : Int), l.length - i ≤ n → stackGo (l.map (relab r)) xs' i d = stackGo l xs i d
  | 0, i, d, hn => by
    rw [stackGo]
    conv => rhs; rw [stackGo]
    rw [List.length_map, if_neg (by omega), if_neg (by omega)]
  | n + 1, i, d, hn => by
    rw [stackGo]
    conv => rhs; rw [stackGo]
    rw [List.length_map]
    by_cases hi : i < l.length
    · have eo : opAt (l.map (relab r)) i = relab r (opAt l i) := rd_map _ _ hi
      rw [if_pos hi, if_pos hi, round_map r1 hl hi, eo, relab_f0, after_relab, stack_map r1 hl n (i + 1) _ (by omega)]
    · rw [if_neg hi, if_neg hi]
theorem nodup_len : ∀ (n : Nat) (r : List Int), r.Nodup → (∀ x ∈ r, 1 ≤ x ∧ x ≤ n) → r.length ≤ n
  | 0, [], _, _ => Nat.le_refl _
  | 0, x :: r, _, h => by have := h x (List.mem_cons_self ..); omega
  | n + 1, r, hd, h => by
    have ih := nodup_len n (r.erase ((n : Int) + 1)) (hd.erase _) fun x hx => by
      have h1 := (hd.mem_erase_iff).1 hx
      have h2 := h x h1.2
      have h3 := h1.1
      omega
    by_cases hm : ((n : Int) + 1) ∈ r
    · rw [List.length_erase_of_mem hm] at ih; omega
    · rw [List.erase_of_not_mem hm] at ih; omega
theorem labs_len {c : D} (hv : Valid c) : ((labs c).length : Int) ≤ c.labels := by
  have h1 := labs_bd hv
  have h0 := hv.st.l
  have := nodup_len c.labels.toNat (labs c) (labs_ok hv) fun x hx => by have := h1 x hx; omega
  omega
theorem ren_valid {c : D} (hv : Valid c) : Valid (ren c) ∧ PlRel (labs c) (placR c).1 (placR (ren c)).1 := by
  have hc := coded_iff.1 hv.coded
  have hbd := labs_bd hv
  have hd := labs_ok hv
  have hll := labs_len hv
  have hlim := hv.lim
  have hLI : ∀ o ∈ c.ops, LabIn (labs c) o := fun o ho => labIn hv ho
  obtain ⟨z, hz, e1, e2⟩ := pl_of hc.pl
  obtain ⟨z', hz', p1, p2, p3, p4⟩ := places_map (r := labs c) hd (fun x hx => (hbd x hx).1) (L := c.labels.toNat) (fun x hx => by have := hbd x hx; omega) c.ops 0 0 0 0 (zeros c.labels.toNat) (zeros c.labels.toNat) (zeros (labs c).length) (zeros (labs c).length) z hz.eq hLI (by simp [zeros]) (by simp [zeros]) (by simp [zeros]) (by simp [zeros]) (fun x _ => by rw [rd_zeros, rd_zeros]) (fun x _ => by rw [rd_zeros, rd_zeros])
  have hz2 : Pl (ren c) z' := ⟨hz', p3.trans hz.p, p4.trans (last_len hd c.ops [] rfl hLI)⟩
  have e3 := pl_to hz2
  have hcd : Coded (ren c) := by
    refine ⟨hc.name, hc.p, by show 0 ≤ ((labs c).length : Int); omega, ?_, by rw [e3], ?_, ?_, ?_⟩
    · refine List.all_eq_true.2 fun o ho => ?_
      obtain ⟨o', h1, rfl⟩ := List.mem_map.1 (show o ∈ c.ops.map (relab (labs c)) from ho)
      exact opOk_ren hv h1
    · show orderGo (c.ops.map (relab (labs c))) 0 = true
      rw [order_map _ _ c.ops.length 0 (by omega)]; exact hc.ord
    · have h := hc.areas
      unfold areasB at h ⊢
      rw [show (ren c).data.all areaB = c.data.all areaB by
        show (c.data.map cpD).all areaB = _
        rw [List.all_map]; rfl]
      exact h
    · rw [e3]
      show namesB z'.1 z'.2.1 (c.ops.map (relab (labs c))) 0 = true
      rw [names_map p1 p2 c.ops 0 hLI, ← e1, ← e2]; exact hc.names
  refine ⟨⟨ren_fine hv.fine, ?_, coded_iff.2 hcd, ?_⟩, by rw [e3, e1]; exact p1⟩
  · have h := hv.small
    unfold largeB at h ⊢
    simp only [Bool.or_eq_false_iff, decide_eq_false_iff_not] at h ⊢
    obtain ⟨⟨⟨⟨h1, h2⟩, h3⟩, h4⟩, h5⟩ := h
    refine ⟨⟨⟨⟨?_, ?_⟩, h3⟩, ?_⟩, ?_⟩
    · show ¬ ((c.ops.map (relab (labs c))).length : Int) > 40000
      rw [List.length_map]; exact h1
    · rw [ren_data]; exact h2
    · show ¬ ((labs c).length : Int) > 20000
      omega
    · show ¬ areasSize (c.data.map cpD) > 7800
      unfold areasSize at h5 ⊢
      rw [List.map_map]; exact h5
  · show stackGo (c.ops.map (relab (labs c))) (placR (ren c)).1 0 0 = true
    rw [e3, stack_map p1 hLI c.ops.length 0 0 (by omega), ← e1]; exact hv.stacked
theorem check_zero {c : D} (hv : Valid c) : checkI c = 0 := by
  unfold checkI
  rw [if_neg (by rw [hv.small]; decide), if_pos hv.coded, if_pos hv.stacked]
/-! ### twice is once -/
def cnt : Nat → List Int
  | 0 => []
  | n + 1 => ((n : Int) + 1) :: cnt n
theorem cnt_len : ∀ n, (cnt n).length = n
  | 0 => rfl
  | n + 1 => by rw [cnt, List.length_cons, cnt_len n]
theorem nuR_cnt : ∀ (n : Nat) (k : Int), 1 ≤ k → k ≤ n → nuR (cnt n) k = k
  | 0, k, h1, h2 => by omega
  | n + 1, k, h1, h2 => by
    rw [cnt, nuR, cnt_len]
    by_cases e : k = (n : Int) + 1
    · rw [if_pos e, e]
    · rw [if_neg e]; exact nuR_cnt n k h1 (by omega)
theorem labs_map {r : List Int} (hd : r.Nodup) : ∀ (l : List Op) (s : List Int), labR l s = r → (∀ o ∈ l, LabIn r o) → labR (l.map (relab r)) (cnt s.length) = cnt r.length
  | [], s, h, hl => by rw [← h]; rfl
  | o :: l, s, h, hl => by
    have ho := hl o (List.mem_cons_self ..)
    have hl' : ∀ o ∈ l, LabIn r o := fun o h => hl o (List.mem_cons_of_mem _ h)
    rw [labR] at h
    rw [List.map_cons, labR, relab_f0]
    by_cases e : o.f0 = 19
    · rw [if_pos e] at h ⊢
      obtain ⟨t, ht⟩ := labR_app l (o.f1 :: s)
      rw [h] at ht
      have hx : o.f1 ∉ t := by
        intro hm
        rw [ht] at hd
        exact (List.nodup_append.1 hd).2.2 _ hm _ (List.mem_cons_self ..) rfl
      have hn : nuR r o.f1 = (s.length : Int) + 1 := by rw [ht]; exact nuR_app _ _ _ hx
      rw [relab_f1' ho (.inr e), hn]
      exact labs_map hd l (o.f1 :: s) h hl'
    · rw [if_neg e] at h ⊢
      exact labs_map hd l s h hl'
theorem relab_twice {r : List Int} {o : Op} (hl : LabIn r o) : relab (cnt r.length) (relab r o) = relab r o := by
  have hn := named_relab hl
  by_cases e : o.f0 = 30
  · have hm := nuR_pos (hl.c30 e)
    have e1 : relab r o = .r [o.cell 0, o.cell 1, .i (nuR r o.f2)] := by unfold relab; rw [if_pos e]
    rw [relab, if_pos (by rw [relab_f0]; exact e), relab_f2' r e, nuR_cnt _ _ hm.1 hm.2, e1]; rfl
  · by_cases h : o.f0 = 19 ∨ namedI o > 0
    · have hs : M6 o ∨ o.f0 = 19 := h.elim .inr fun h => .inl (named_6 h e)
      have hm := nuR_pos (hs.elim hl.nam hl.c19)
      have e1 : relab r o = .r [o.cell 0, .i (nuR r o.f1), o.cell 2] := by unfold relab; rw [if_neg e, if_pos h]
      rw [relab, if_neg (by rw [relab_f0]; exact e), if_pos (by rw [relab_f0]; exact h.imp id (named_gt hl).2), relab_f1' hl hs, nuR_cnt _ _ hm.1 hm.2, e1]; rfl
    · rw [relab, if_neg (by rw [relab_f0]; exact e), if_neg (by rw [relab_f0]; exact fun h' => h (h'.imp id (named_gt hl).1))]
theorem ren_twice {c : D} (hv : Valid c) : renC (ren c) = renC c := by
  have hd := labs_ok hv
  have hLI : ∀ o ∈ c.ops, LabIn (labs c) o := fun o ho => labIn hv ho
  have e : labR (c.ops.map (relab (labs c))) [] = cnt (labs c).length := labs_map hd c.ops [] rfl hLI
  show (c.s0, (c.data.map cpD).map cpD, (c.ops.map (relab (labs c))).map (relab (labR (c.ops.map (relab (labs c))) [])), c.gl, c.procs, ((labR (c.ops.map (relab (labs c))) []).length : Int), ()) = (c.s0, c.data.map cpD, c.ops.map (relab (labs c)), c.gl, c.procs, ((labs c).length : Int), ())
  rw [e, cnt_len, List.map_map, List.map_map]
  have h1 : (c.data.map (cpD ∘ cpD)) = c.data.map cpD := List.map_congr_left fun d _ => rfl
  have h2 : c.ops.map (relab (cnt (labs c).length) ∘ relab (labs c)) = c.ops.map (relab (labs c)) := List.map_congr_left fun o ho => relab_twice (hLI o ho)
  rw [h1, h2]
/-! ### depths and rooms -/
theorem depths_map (r : List Int) : ∀ (l : List Op) (d : Int), depthsL (l.map (relab r)) d = depthsL l d
  | [], d => rfl
  | o :: l, d => by
    rw [List.map_cons, depthsL, depthsL, relab_f0, after_relab, depths_map r l]
    unfold ahead
    rw [relab_f0]
theorem room_map (r : List Int) : ∀ (l : List Op) (ds : List D) (p : Int) (out : List D), roomL (l.map (relab r)) ds p out = roomL l ds p out
  | [], ds, p, out => by cases ds <;> rfl
  | o :: l, [], p, out => rfl
  | o :: l, d :: ds, p, out => by
    have e1 : roomP (relab r o) p = roomP o p := by
      unfold roomP
      rw [relab_f0]
      by_cases h : o.f0 = 24
      · rw [relab_f1 r (by unfold M6; omega) (by omega)]
      · rw [if_neg h, if_neg h]
    rw [List.map_cons, roomL, roomL, e1, room_map r l]
    unfold room1 room2
    rw [relab_f0, after_relab]
/-! ### code is the same as itself -/
theorem sameI_l (l : List D) (hl : l.length ≤ 1000000) (κ : Unit → Option Bool) : ∀ (n i k : Nat), l.length - i = n → i ≤ l.length → n < k → Gslices_Equal___int_int.l58 k l l (l.length : Int) (i : Int) κ = κ ()
  | 0, i, k, hn, hi, hk => by
    obtain ⟨k, rfl⟩ : ∃ m, k = m + 1 := ⟨k - 1, by omega⟩
    simp only [Gslices_Equal___int_int.l58]
    rw [decide_eq_false (by omega)]
    rfl
  | n + 1, i, k, hn, hi, hk => by
    obtain ⟨k, rfl⟩ : ∃ m, k = m + 1 := ⟨k - 1, by omega⟩
    have g0 : inB (i : Int) l.length = true := inB_pos (by omega)
    simp only [Gslices_Equal___int_int.l58, toNat_nat]
    rw [decide_eq_true (show (i : Int) < l.length by omega), cond_true, gd_pos g0, gd_pos g0, bne_self_eq_false, cond_false, w_succ i (by omega)]
    exact sameI_l l hl κ n (i + 1) k (by omega) (by omega) (by omega)
theorem sameI_self (l : List D) (hl : l.length ≤ 1000000) : Gslices_Equal___int_int.f l l = some true := by
  unfold Gslices_Equal___int_int.f
  rw [bne_self_eq_false, cond_false]
  exact sameI_l l hl _ l.length 0 NN (by omega) (by omega) (by have := le_NN; omega)
theorem sameO_l (l : List D) (hl : l.length ≤ 1000000) (κ : Unit → Option Bool) : ∀ (n i k : Nat), l.length - i = n → i ≤ l.length → n < k → Gslices_Equal___bluebell_api_Op_bluebell_api_Op.l58 k l l (l.length : Int) (i : Int) κ = κ ()
  | 0, i, k, hn, hi, hk => by
    obtain ⟨k, rfl⟩ : ∃ m, k = m + 1 := ⟨k - 1, by omega⟩
    simp only [Gslices_Equal___bluebell_api_Op_bluebell_api_Op.l58]
    rw [decide_eq_false (by omega)]
    rfl
  | n + 1, i, k, hn, hi, hk => by
    obtain ⟨k, rfl⟩ : ∃ m, k = m + 1 := ⟨k - 1, by omega⟩
    have g0 : inB (i : Int) l.length = true := inB_pos (by omega)
    simp only [Gslices_Equal___bluebell_api_Op_bluebell_api_Op.l58, toNat_nat]
    rw [decide_eq_true (show (i : Int) < l.length by omega), cond_true, gd_pos g0, gd_pos g0]
    simp only [beq_self_eq_true, Bool.and_self, Bool.not_true, cond_false, w_succ i (show (i : Int) + 1 ≤ 9223372036854775807 by omega)]
    exact sameO_l l hl κ n (i + 1) k (by omega) (by omega) (by omega)
theorem sameO_self (l : List D) (hl : l.length ≤ 1000000) : Gslices_Equal___bluebell_api_Op_bluebell_api_Op.f l l = some true := by
  unfold Gslices_Equal___bluebell_api_Op_bluebell_api_Op.f
  rw [bne_self_eq_false, cond_false]
  exact sameO_l l hl _ l.length 0 NN (by omega) (by omega) (by have := le_NN; omega)
theorem sameE_l (l : List D) (hl : l.length ≤ 1000000) (κ : Unit → Option Bool) : ∀ (n i k : Nat), l.length - i = n → i ≤ l.length → n < k → Gslices_Equal___bluebell_api_Entry_bluebell_api_Entry.l58 k l l (l.length : Int) (i : Int) κ = κ ()
  | 0, i, k, hn, hi, hk => by
    obtain ⟨k, rfl⟩ : ∃ m, k = m + 1 := ⟨k - 1, by omega⟩
    simp only [Gslices_Equal___bluebell_api_Entry_bluebell_api_Entry.l58]
    rw [decide_eq_false (by omega)]
    rfl
  | n + 1, i, k, hn, hi, hk => by
    obtain ⟨k, rfl⟩ : ∃ m, k = m + 1 := ⟨k - 1, by omega⟩
    have g0 : inB (i : Int) l.length = true := inB_pos (by omega)
    simp only [Gslices_Equal___bluebell_api_Entry_bluebell_api_Entry.l58, toNat_nat]
    rw [decide_eq_true (show (i : Int) < l.length by omega), cond_true, gd_pos g0, gd_pos g0]
    simp only [beq_self_eq_true, Bool.and_self, Bool.not_true, cond_false, w_succ i (show (i : Int) + 1 ≤ 9223372036854775807 by omega)]
    exact sameE_l l hl κ n (i + 1) k (by omega) (by omega) (by omega)
theorem sameE_self (l : List D) (hl : l.length ≤ 1000000) : Gslices_Equal___bluebell_api_Entry_bluebell_api_Entry.f l l = some true := by
  unfold Gslices_Equal___bluebell_api_Entry_bluebell_api_Entry.f
  rw [bne_self_eq_false, cond_false]
  exact sameE_l l hl _ l.length 0 NN (by omega) (by omega) (by have := le_NN; omega)
theorem sameD_one (d : D) (h : d.l2.length ≤ 1000000) : Gocode_Same_1.f d d = some true := by
  unfold Gocode_Same_1.f
  simp only [beq_self_eq_true, Bool.and_self, cond_true, sameI_self _ h, Option.bind_some]
theorem sameD_l (l : List D) (hl : l.length ≤ 1000000) (hw : ∀ d ∈ l, d.l2.length ≤ 1000000) (κ : Unit → Option Bool) : ∀ (n i k : Nat), l.length - i = n → i ≤ l.length → n < k → Gslices_EqualFunc___bluebell_api_Data___bluebell_api_Data_bluebell_api_Data_bluebell_api_Data_48.l58 k l () l (l.length : Int) (i : Int) κ = κ ()
  | 0, i, k, hn, hi, hk => by
    obtain ⟨k, rfl⟩ : ∃ m, k = m + 1 := ⟨k - 1, by omega⟩
    simp only [Gslices_EqualFunc___bluebell_api_Data___bluebell_api_Data_bluebell_api_Data_bluebell_api_Data_48.l58]
    rw [decide_eq_false (by omega)]
    rfl
  | n + 1, i, k, hn, hi, hk => by
    obtain ⟨k, rfl⟩ : ∃ m, k = m + 1 := ⟨k - 1, by omega⟩
    have hlt : i < l.length := by omega
    have g0 : inB (i : Int) l.length = true := inB_pos (by omega)
    simp only [Gslices_EqualFunc___bluebell_api_Data___bluebell_api_Data_bluebell_api_Data_bluebell_api_Data_48.l58, toNat_nat]
    rw [decide_eq_true (show (i : Int) < l.length by omega), cond_true, gd_pos g0, gd_pos g0, sameD_one _ (hw _ (rd_mem hlt)), Option.bind_some, Bool.not_true, cond_false, w_succ i (by omega)]
    exact sameD_l l hl hw κ n (i + 1) k (by omega) (by omega) (by omega)
theorem sameD_self (l : List D) (hl : l.length ≤ 1000000) (hw : ∀ d ∈ l, d.l2.length ≤ 1000000) : Gslices_EqualFunc___bluebell_api_Data___bluebell_api_Data_bluebell_api_Data_bluebell_api_Data_48.f l l () = some true := by
  unfold Gslices_EqualFunc___bluebell_api_Data___bluebell_api_Data_bluebell_api_Data_bluebell_api_Data_48.f
  rw [bne_self_eq_false, cond_false]
  exact sameD_l l hl hw _ l.length 0 NN (by omega) (by omega) (by have := le_NN; omega)
theorem same_self (c : D) (h : Fine c) : Gocode_Same.f c c = some true := by
  unfold Gocode_Same.f
  have h1 : Gslices_Equal___bluebell_api_Op_bluebell_api_Op.f (c.cell 2).list (c.cell 2).list = some true := sameO_self _ h.o
  have h2 : Gslices_Equal___bluebell_api_Entry_bluebell_api_Entry.f (c.cell 3).list (c.cell 3).list = some true := sameE_self _ h.g
  have h3 : Gslices_EqualFunc___bluebell_api_Data___bluebell_api_Data_bluebell_api_Data_bluebell_api_Data_48.f (c.cell 1).list (c.cell 1).list () = some true := sameD_self _ h.d fun d hd => (h.w d hd).2
  simp only [beq_self_eq_true, Bool.and_self, cond_true, h1, h2, h3, Option.bind_some]
/-! ### the law -/
theorem again_pure (c : D) (hw : Wide c) : Gw06_OcodeAgain.f c = some true := by
  obtain ⟨b, hb, hf⟩ := heavy_f c hw
  unfold Gw06_OcodeAgain.f
  rw [hb, Option.bind_some]
  cases b with
  | true => rw [cond_true, awake_f]; rfl
  | false =>
    obtain ⟨hf, -⟩ := hf rfl
    rw [cond_false, renumber_f c hf, Option.bind_some]
    by_cases g : checkI c = 0
    · have hv := check_ok hf g
      obtain ⟨hv2, -⟩ := ren_valid hv
      have g2 := check_zero hv2
      have e1 : renR c = (renC c, 0) := by unfold renR; rw [if_pos g]
      have e2 : renR (ren c) = (renC c, 0) := by unfold renR; rw [if_pos g2, ren_twice hv]
      have q2 := renumber_f (ren c) hv2.fine
      have d1 : depthsR (ren c) = depthsR c := by
        unfold depthsR
        rw [if_pos g, if_pos g2]
        show (depthsL (c.ops.map (relab (labs c))) 0, (0 : Int)) = _
        rw [depths_map]
      have r1 : roomR (ren c) = roomR c := by
        unfold roomR
        rw [if_pos g, if_pos g2]
        show (roomL (c.ops.map (relab (labs c))) (depthsL (c.ops.map (relab (labs c))) 0) 0 (List.replicate c.procs.toNat (.i 0)), (0 : Int)) = _
        rw [depths_map, room_map]
      have q3 := depths_f (ren c) hv2.fine
      have q4 := room_f (ren c) hv2.fine
      have q5 := same_self (ren c) hv2.fine
      have e3 : (depthsR c).2 = 0 := by unfold depthsR; rw [if_pos g]
      have e4 : (roomR c).2 = 0 := by unfold roomR; rw [if_pos g]
      have e5 : (renC c).2.2.1.length = c.ops.length := by show (c.ops.map (relab (labs c))).length = _; simp
      have e5 : (renC c).2.2.1.length = (c.cell 2).list.length := e5
      rw [e2] at q2
      rw [d1] at q3
      rw [r1] at q4
      simp only [ren, toD] at q2 q3 q4 q5
      rw [e1]
      simp only [bne_self_eq_false, cond_false, q2, Option.bind_some, depths_f c hf, q3, room_f c hf, q4, beq_self_eq_true, cond_true, q5, e3, e4, Bool.and_self, eqints_self _ (depthsR_len hf), eqints_self _ (roomR_len hf), e5, awake_f]
    · have e1 : renR c = (noC, checkI c) := by unfold renR; rw [if_neg g]
      rw [e1, show ((noC, checkI c).2 != 0) = true from bne_iff_ne.2 g, cond_true, awake_f]; rfl
end Go.Pv

namespace Go.Pv
open Go.Proofs Go.Proofs.Ytkmcanknbdaliaa.Lx
set_option maxRecDepth 20000
set_option linter.unusedSimpArgs false
/-! ### the instructions that stay -/
def shO (P : Int) (o : Op) : Op :=
  if (o.f0 = 24 ∨ o.f0 = 11) ∧ o.f1 > P then .r [.i o.f0, .i (o.f1 - 1), .i o.f2] else if o.f0 = 11 ∧ o.f1 = P then .r [.i o.f0, .i 1, .i o.f2] else o
def woL (P : Int) : List Op → Int → List Op
  | [], _ => []
  | o :: l, q => if (if o.f0 = 24 then o.f1 else q) = P then woL P l (if o.f0 = 24 then o.f1 else q) else shO P o :: woL P l (if o.f0 = 24 then o.f1 else q)
theorem sh_f0 (P : Int) (o : Op) : (shO P o).f0 = o.f0 := by
  unfold shO; split
  · rfl
  · split <;> rfl
theorem sh_f2 (P : Int) (o : Op) : (shO P o).f2 = o.f2 := by
  unfold shO; split
  · rfl
  · split <;> rfl
theorem sh_f1 (P : Int) {o : Op} (h : o.f0 ≠ 24) (h2 : o.f0 ≠ 11) : (shO P o).f1 = o.f1 := by
  unfold shO
  rw [if_neg (by rintro ⟨h3 | h3, -⟩; exact h h3; exact h2 h3), if_neg (fun h3 => h2 h3.1)]
theorem sh_f1e (P : Int) {o : Op} (h : o.f0 = 24) : (shO P o).f1 = if o.f1 > P then o.f1 - 1 else o.f1 := by
  unfold shO
  by_cases e : o.f1 > P
  · rw [if_pos ⟨.inl h, e⟩, if_pos e]; rfl
  · rw [if_neg (fun h' => e h'.2), if_neg (fun h' => by rw [h] at h'; exact absurd h'.1 (by decide)), if_neg e]
theorem sh_m6 {P : Int} {o : Op} : M6 (shO P o) ↔ M6 o := by unfold M6; rw [sh_f0]
theorem sh_named (P : Int) (o : Op) : namedI (shO P o) = namedI o := by
  by_cases h : M6 o
  · rw [named_m6 h, named_m6 (sh_m6.2 h), sh_f1 P (by rcases h with h | h | h | h | h <;> rw [h] <;> decide) (by rcases h with h | h | h | h | h <;> rw [h] <;> decide)]
  · by_cases e : o.f0 = 30
    · rw [named_30 e, named_30 ((sh_f0 P o).trans e), sh_f2]
    · rw [named_no h e, named_no (fun h' => h (sh_m6.1 h')) (by rw [sh_f0]; exact e)]
theorem sh_fits (P : Int) (o : Op) (d : Int) (x : D) (b : Bool) : fitsB (shO P o) d x b = fitsB o d x b := by
  unfold fitsB
  rw [sh_f0]
  by_cases h : o.f0 = 24 ∨ o.f0 = 11
  · rcases h with h | h <;> simp [h]
  · rw [sh_f1 P (fun h' => h (.inl h')) (fun h' => h (.inr h'))]
theorem sh_after (P : Int) (o : Op) (d : Int) (x : D) : afterI (shO P o) d x = afterI o d x := by
  unfold afterI
  rw [sh_f0, sh_f2]
  by_cases h : o.f0 = 24 ∨ o.f0 = 11
  · rcases h with h | h <;> simp [h]
  · rw [sh_f1 P (fun h' => h (.inl h')) (fun h' => h (.inr h'))]
/-! ### what is left out is one piece -/
theorem wo3 (P : Int) {r : Int × Int} : ∀ (l : List Op) (q la : Int), scanL l q la = some r → P < q → woL P l q = l.map (shO P)
  | [], q, la, h, hq => rfl
  | o :: l, q, la, h, hq => by
    rw [scanL] at h
    rw [woL, List.map_cons]
    by_cases e : o.f0 = 24
    · rw [if_pos e] at h
      by_cases e2 : o.f1 = q + 1
      · rw [if_pos e2] at h
        rw [if_pos e, if_neg (by omega), wo3 P l o.f1 la (by rw [e2]; exact h) (by omega)]
      · rw [if_neg e2] at h; exact absurd h (by simp)
    · rw [if_neg e] at h
      rw [if_neg e, if_neg (by omega)]
      by_cases e2 : o.f0 = 19
      · rw [if_pos e2] at h; rw [wo3 P l q _ h hq]
      · rw [if_neg e2] at h; rw [wo3 P l q _ h hq]
theorem wo2 (P : Int) {r : Int × Int} : ∀ (l : List Op) (la : Int), scanL l P la = some r → ∃ b, b ≤ l.length ∧ woL P l P = (l.drop b).map (shO P) ∧ (b = l.length ∨ (opAt l b).f0 = 24) ∧ ∀ k, k < b → (opAt l k).f0 ≠ 24
  | [], la, h => ⟨0, Nat.le_refl _, rfl, .inl rfl, fun k hk => absurd hk (by omega)⟩
  | o :: l, la, h => by
    rw [scanL] at h
    rw [woL]
    by_cases e : o.f0 = 24
    · rw [if_pos e] at h
      by_cases e2 : o.f1 = P + 1
      · rw [if_pos e2] at h
        refine ⟨0, Nat.zero_le _, ?_, .inr e, fun k hk => absurd hk (by omega)⟩
        rw [if_pos e, if_neg (by omega), wo3 P l o.f1 la (by rw [e2]; exact h) (by omega)]; rfl
      · rw [if_neg e2] at h; exact absurd h (by simp)
    · rw [if_neg e] at h
      rw [if_neg e, if_pos rfl]
      have key : ∃ la', scanL l P la' = some r := by split at h <;> exact ⟨_, h⟩
      obtain ⟨la', h'⟩ := key
      obtain ⟨b, b1, b2, b3, b4⟩ := wo2 P l la' h'
      refine ⟨b + 1, by simp; omega, b2, b3.imp (fun h => by simp [h]) id, fun k hk => ?_⟩
      cases k with
      | zero => exact e
      | succ k => exact b4 k (by omega)
structure Piece (P : Int) (l : List Op) (q : Int) (a b : Nat) : Prop where
  len : a + b ≤ l.length
  pos : 1 ≤ b
  eq : woL P l q = (l.take a ++ l.drop (a + b)).map (shO P)
  f0 : (opAt l a).f0 = 24
  f1 : (opAt l a).f1 = P
  fin : a + b = l.length ∨ (opAt l (a + b)).f0 = 24
  mid : ∀ k, a < k → k < a + b → (opAt l k).f0 ≠ 24
theorem wo1 (P : Int) {r : Int × Int} : ∀ (l : List Op) (q la : Int), scanL l q la = some r → q < P → P ≤ r.1 → ∃ a b, Piece P l q a b
  | [], q, la, h, hq, hr => by
    simp only [scanL, Option.some.injEq] at h
    subst h
    exact absurd hr (by simp; omega)
  | o :: l, q, la, h, hq, hr => by
    rw [scanL] at h
    by_cases e : o.f0 = 24
    · rw [if_pos e] at h
      by_cases e2 : o.f1 = q + 1
      · rw [if_pos e2] at h
        by_cases e3 : q + 1 = P
        · rw [e3] at h
          obtain ⟨b, b1, b2, b3, b4⟩ := wo2 P l la h
          refine ⟨0, b + 1, by simp; omega, by omega, ?_, e, by show o.f1 = P; omega, ?_, fun k h1 h2 => ?_⟩
          · rw [woL, if_pos e, if_pos (by omega), e2, e3, b2]; simp
          · rcases b3 with h | h
            · left; simp [h]
            · right; rw [show 0 + (b + 1) = b + 1 by omega]; exact h
          · obtain ⟨k, rfl⟩ : ∃ m, k = m + 1 := ⟨k - 1, by omega⟩
            exact b4 k (by omega)
        · obtain ⟨a, b, p⟩ := wo1 P l (q + 1) la h (by omega) hr
          refine ⟨a + 1, b, by have := p.len; simp; omega, p.pos, ?_, p.f0, p.f1, ?_, fun k h1 h2 => ?_⟩
          · rw [woL, if_pos e, if_neg (by omega), e2, p.eq, show a + 1 + b = (a + b) + 1 by omega]; simp
          · rw [show a + 1 + b = (a + b) + 1 by omega]; exact p.fin.imp (fun h => by simp [h]) id
          · obtain ⟨k, rfl⟩ : ∃ m, k = m + 1 := ⟨k - 1, by omega⟩
            exact p.mid k (by omega) (by omega)
      · rw [if_neg e2] at h; exact absurd h (by simp)
    · rw [if_neg e] at h
      have key : ∃ la', scanL l q la' = some r := by split at h <;> exact ⟨_, h⟩
      obtain ⟨la', h'⟩ := key
      obtain ⟨a, b, p⟩ := wo1 P l q la' h' hq hr
      refine ⟨a + 1, b, by have := p.len; simp; omega, p.pos, ?_, p.f0, p.f1, ?_, fun k h1 h2 => ?_⟩
      · rw [woL, if_neg e, if_neg (by omega), p.eq, show a + 1 + b = (a + b) + 1 by omega]; simp
      · rw [show a + 1 + b = (a + b) + 1 by omega]; exact p.fin.imp (fun h => by simp [h]) id
      · obtain ⟨k, rfl⟩ : ∃ m, k = m + 1 := ⟨k - 1, by omega⟩
        exact p.mid k (by omega) (by omega)
/-! ### by places -/
/-- Where an instruction that stays stood. -/
def em (a b i : Nat) : Nat := if i < a then i else i + b
structure Wo (P : Int) (l l' : List Op) (a b : Nat) : Prop where
  len : a + b ≤ l.length
  pos : 1 ≤ b
  f0 : (opAt l a).f0 = 24
  f1 : (opAt l a).f1 = P
  fin : a + b = l.length ∨ (opAt l (a + b)).f0 = 24
  mid : ∀ k, a < k → k < a + b → (opAt l k).f0 ≠ 24
  n : l'.length + b = l.length
  at_ : ∀ i, i < l'.length → opAt l' i = shO P (opAt l (em a b i))
theorem rd_takeI : ∀ (l : List D) (a i : Nat), i < a → rd (l.take a) i = rd l i
  | [], a, i, h => by simp [rd]
  | x :: l, 0, i, h => by omega
  | x :: l, a + 1, 0, h => rfl
  | x :: l, a + 1, i + 1, h => rd_takeI l a i (by omega)
theorem rd_dropI : ∀ (l : List D) (a i : Nat), rd (l.drop a) i = rd l (a + i)
  | [], a, i => by simp [rd]
  | x :: l, 0, i => by simp
  | x :: l, a + 1, i => by rw [List.drop_succ_cons, rd_dropI l a i, show a + 1 + i = (a + i) + 1 by omega]; rfl
theorem rd_right : ∀ (xs ys : List D) (j : Nat), xs.length ≤ j → rd (xs ++ ys) j = rd ys (j - xs.length)
  | [], ys, j, h => rfl
  | x :: xs, ys, 0, h => by simp at h
  | x :: xs, ys, j + 1, h => by
    have := rd_right xs ys j (by simpa using h)
    simp only [List.cons_append, List.length_cons, Nat.add_sub_add_right]
    exact this
theorem wo_of {P : Int} {l : List Op} {q : Int} {a b : Nat} (p : Piece P l q a b) : Wo P l (woL P l q) a b := by
  have h1 := p.len
  have hn : (woL P l q).length + b = l.length := by rw [p.eq]; simp; omega
  refine ⟨p.len, p.pos, p.f0, p.f1, p.fin, p.mid, hn, fun i hi => ?_⟩
  have hi' : i < (l.take a ++ l.drop (a + b)).length := by rw [p.eq] at hi; simpa using hi
  show rd (woL P l q) i = shO P (rd l (em a b i))
  rw [p.eq, rd_map _ _ hi']
  congr 1
  have ht : (l.take a).length = a := by simp; omega
  unfold em
  by_cases e : i < a
  · rw [if_pos e, ri_left _ _ _ (by omega), rd_takeI _ _ _ e]
  · rw [if_neg e, rd_right _ _ _ (by omega), ht, rd_dropI]
    congr 1; omega
section
variable {P : Int} {l l' : List Op} {a b : Nat}
theorem Wo.f0' (h : Wo P l l' a b) {i : Nat} (hi : i < l'.length) : (opAt l' i).f0 = (opAt l (em a b i)).f0 := by rw [h.at_ i hi, sh_f0]
theorem Wo.f2' (h : Wo P l l' a b) {i : Nat} (hi : i < l'.length) : (opAt l' i).f2 = (opAt l (em a b i)).f2 := by rw [h.at_ i hi, sh_f2]
theorem Wo.lt (h : Wo P l l' a b) {i : Nat} (hi : i < l'.length) : em a b i < l.length := by have := h.n; have := h.len; unfold em; split <;> omega
theorem em_next {i : Nat} (h : i + 1 ≠ a) : em a b (i + 1) = em a b i + 1 := by unfold em; split <;> split <;> omega
/-- Behind the last instruction ahead of the piece comes an enter, or nothing. -/
theorem Wo.edge (h : Wo P l l' a b) : a = l'.length ∨ (a < l'.length ∧ (opAt l' a).f0 = 24) := by
  rcases h.fin with e | e
  · left; have := h.n; omega
  · by_cases hlt : a < l'.length
    · right; refine ⟨hlt, ?_⟩
      rw [h.f0' hlt, show em a b a = a + b by unfold em; simp]; exact e
    · left
      have h1 := h.n
      have h2 := h.len
      omega
/-! ### the order -/
theorem order_reach (l : List Op) : ∀ (n i : Nat), l.length - i ≤ n → orderGo l i = true → ∀ j, i ≤ j → j ≤ l.length → (j = l.length ∨ (opAt l j).f0 = 24) → orderGo l j = true
  | n, i, hn, h, j, hij, hj, hf => by
    by_cases e : i = j
    · rw [← e]; exact h
    · cases n with
      | zero => omega
      | succ n =>
        have hi : i < l.length := by omega
        rw [orderGo, if_pos hi] at h
        by_cases e1 : (opAt l i).f0 = 29
        · rw [if_pos e1] at h
          have h3 := and2 h
          have h4 := and2 h3.1
          have h5 := and2 h4.1
          have hc := h5.1
          have hlen := casesB_len hc (by omega)
          have hge : i + (opAt l i).f2.toNat + 1 ≤ j := by
            apply Classical.byContradiction
            intro hlt
            have hc' := casesB_at (j := j - (i + 1)) hc (by omega)
            rw [show i + 1 + (j - (i + 1)) = j by omega] at hc'
            rcases hf with hf | hf
            · omega
            · rw [hf] at hc'; exact absurd hc'.2 (by decide)
          exact order_reach l n _ (by omega) h3.2 j hge hj hf
        · rw [if_neg e1] at h
          by_cases e2 : (opAt l i).f0 = 30
          · rw [if_pos e2] at h; exact absurd h (by decide)
          · rw [if_neg e2] at h
            by_cases e3 : (opAt l i).f0 = 19
            · rw [if_pos e3] at h
              exact order_reach l n _ (by omega) (and2 h).2 j (by omega) hj hf
            · rw [if_neg e3] at h
              exact order_reach l n _ (by omega) (and2 h).2 j (by omega) hj hf
/-- What the order says of each place. -/
theorem order_at (l : List Op) : ∀ (n i : Nat), l.length - i ≤ n → orderGo l i = true → ∀ j, i ≤ j → j < l.length → ((opAt l j).f0 = 19 → labelOk l j = true) ∧ ((j + 1 = l.length ∨ (opAt l (j + 1)).f0 = 24) → endsB l j = true)
  | 0, i, hn, h, j, hij, hj => by omega
  | n + 1, i, hn, h, j, hij, hj => by
    have hi : i < l.length := by omega
    have last : ∀ k, lastOk l k = true → (k + 1 = l.length ∨ (opAt l (k + 1)).f0 = 24) → endsB l k = true := fun k h1 h2 => by
      unfold lastOk at h1; rw [if_pos h2] at h1; exact h1
    rw [orderGo, if_pos hi] at h
    by_cases e1 : (opAt l i).f0 = 29
    · rw [if_pos e1] at h
      have h3 := and2 h
      have h4 := and2 h3.1
      have h5 := and2 h4.1
      have hc := h5.1
      have hlen := casesB_len hc (by omega)
      by_cases hge : i + (opAt l i).f2.toNat + 1 ≤ j
      · exact order_at l n _ (by omega) h3.2 j hge hj
      · by_cases hj2 : j = i + (opAt l i).f2.toNat
        · refine ⟨fun h19 => ?_, fun h2 => by rw [hj2] at h2 ⊢; exact last _ h4.2 h2⟩
          by_cases hz : j = i
          · rw [hz, e1] at h19; exact absurd h19 (by decide)
          · have hc' := casesB_at (j := j - (i + 1)) hc (by omega)
            rw [show i + 1 + (j - (i + 1)) = j by omega, h19] at hc'
            exact absurd hc'.2 (by decide)
        · have hn1 := casesB_at (j := j + 1 - (i + 1)) hc (by omega)
          rw [show i + 1 + (j + 1 - (i + 1)) = j + 1 by omega] at hn1
          refine ⟨fun h19 => ?_, fun h2 => ?_⟩
          · by_cases hz : j = i
            · rw [hz, e1] at h19; exact absurd h19 (by decide)
            · have hc' := casesB_at (j := j - (i + 1)) hc (by omega)
              rw [show i + 1 + (j - (i + 1)) = j by omega, h19] at hc'
              exact absurd hc'.2 (by decide)
          · rcases h2 with h2 | h2
            · omega
            · rw [h2] at hn1; exact absurd hn1.2 (by decide)
    · rw [if_neg e1] at h
      by_cases e2 : (opAt l i).f0 = 30
      · rw [if_pos e2] at h; exact absurd h (by decide)
      · rw [if_neg e2] at h
        by_cases e3 : (opAt l i).f0 = 19
        · rw [if_pos e3] at h
          have h3 := and2 h
          have h4 := and2 h3.1
          by_cases hz : j = i
          · subst hz; exact ⟨fun _ => h4.1, fun h2 => last _ h4.2 h2⟩
          · exact order_at l n _ (by omega) h3.2 j (by omega) hj
        · rw [if_neg e3] at h
          have h3 := and2 h
          by_cases hz : j = i
          · subst hz; exact ⟨fun h19 => absurd h19 e3, fun h2 => last _ h3.1 h2⟩
          · exact order_at l n _ (by omega) h3.2 j (by omega) hj
theorem Wo.ends (h : Wo P l l' a b) {i : Nat} (hi : i < l'.length) (hne : i + 1 ≠ a) : endsB l' i = endsB l (em a b i) := by
  unfold endsB
  rw [h.f0' hi, h.f2' hi]
  have h1 := h.n
  have h2 := h.len
  have hn : (decide (i + 1 = l'.length) || (opAt l' (i + 1)).f0 != 30) = (decide (em a b i + 1 = l.length) || (opAt l (em a b i + 1)).f0 != 30) := by
    by_cases e : i + 1 = l'.length
    · have : em a b i + 1 = l.length := by
        have := em_next (b := b) hne
        unfold em at this ⊢
        split <;> (split at this <;> omega)
      rw [decide_eq_true e, decide_eq_true this]; rfl
    · have hlt : i + 1 < l'.length := by omega
      have := h.lt hlt
      rw [em_next hne] at this
      rw [decide_eq_false e, decide_eq_false (by omega), h.f0' hlt, em_next hne]
  rw [hn]
theorem Wo.endsE (h : Wo P l l' a b) {i : Nat} (hi : i < l'.length) (he : i + 1 = a) (hl : endsB l i = true) : endsB l' i = true := by
  have em0 : em a b i = i := by unfold em; rw [if_pos (by omega)]
  unfold endsB at hl ⊢
  rw [h.f0' hi, h.f2' hi, em0]
  by_cases e : (opAt l i).f0 = 20 ∨ (opAt l i).f0 = 25 ∨ (opAt l i).f0 = 26 ∨ (opAt l i).f0 = 27
  · rw [if_pos e]
  · rw [if_neg e] at hl ⊢
    by_cases e2 : (opAt l i).f0 = 29
    · rw [if_pos e2] at hl ⊢; exact hl
    · rw [if_neg e2] at hl ⊢
      by_cases e3 : (opAt l i).f0 = 30
      · rw [if_pos e3]
        rcases h.edge with g | ⟨g1, g2⟩
        · rw [decide_eq_true (by omega)]; rfl
        · rw [he, g2]; simp
      · rw [if_neg e3] at hl; exact absurd hl (by decide)
/-- Where the order holds of code, it holds of what stays. -/
theorem Wo.order (h : Wo P l l' a b) (hl : orderGo l 0 = true) : ∀ (n i : Nat), l'.length - i ≤ n → i ≤ l'.length → orderGo l (em a b i) = true → orderGo l' i = true := by
  have hA := order_at l l.length 0 (by omega) hl
  have h1 := h.n
  have h2 := h.len
  have hedge := h.edge
  have hst : ∀ i, i < a → orderGo l i = true → orderGo l (a + b) = true := fun i hi ho => order_reach l l.length i (by omega) ho (a + b) (by omega) (by omega) h.fin
  have hlast : ∀ i, i < l'.length → lastOk l' i = true := fun i hi => by
    unfold lastOk
    by_cases hc : i + 1 = l'.length ∨ (opAt l' (i + 1)).f0 = 24
    · rw [if_pos hc]
      by_cases he : i + 1 = a
      · exact h.endsE hi he ((hA i (by omega) (by omega)).2 (.inr (by rw [he]; exact h.f0)))
      · rw [h.ends hi he]
        refine (hA _ (by omega) (h.lt hi)).2 ?_
        rcases hc with hc | hc
        · left
          have := em_next (b := b) he
          unfold em at this ⊢
          split <;> (split at this <;> omega)
        · by_cases hlt : i + 1 < l'.length
          · right
            rw [h.f0' hlt, em_next he] at hc; exact hc
          · left
            have := em_next (b := b) he
            unfold em at this ⊢
            split <;> (split at this <;> omega)
    · rw [if_neg hc]
  have hlab : ∀ i, i < l'.length → (opAt l' i).f0 = 19 → labelOk l' i = true ∧ i + 1 ≠ a := fun i hi h19 => by
    rw [h.f0' hi] at h19
    have := (hA _ (by omega) (h.lt hi)).1 h19
    unfold labelOk at this ⊢
    have h3 := and2 this
    have h4 := of_decide_eq_true h3.1
    have hne : i + 1 ≠ a := fun he => by
      have em0 : em a b i = i := by unfold em; rw [if_pos (by omega)]
      rw [em0, he, h.f0] at h3
      exact absurd h3.2 (by decide)
    have hlt : i + 1 < l'.length := by
      have := em_next (b := b) hne
      unfold em at this h4
      split at this <;> split at h4 <;> omega
    rw [decide_eq_true hlt, h.f0' hlt, em_next hne]
    exact ⟨h3.2, hne⟩
  intro n
  induction n with
  | zero =>
    intro i hn hi ho
    rw [orderGo, if_neg (by omega)]
    obtain rfl : i = l'.length := by omega
    by_cases hz : l'.length = 0
    · rw [decide_eq_true hz]; rfl
    · have h0 : 0 < l'.length := by omega
      have h00 := order_first l l.length 0 (by omega) hl
      have hl0 : (opAt l 0).f0 = 24 := by
        rcases Bool.or_eq_true_iff.1 h00 with h3 | h3
        · have := of_decide_eq_true h3; omega
        · exact beq_iff_eq.1 h3
      have : (opAt l' 0).f0 = 24 := by
        rw [h.f0' h0]
        unfold em
        by_cases ha : 0 < a
        · rw [if_pos ha]; exact hl0
        · rw [if_neg ha]
          rcases h.fin with g | g
          · omega
          · rw [show 0 + b = a + b by omega]; exact g
      rw [this]; simp
  | succ n ih =>
    intro i hn hi ho
    by_cases hlt : i < l'.length
    · have hel := h.lt hlt
      rw [orderGo, if_pos hel] at ho
      rw [orderGo, if_pos hlt, h.f0' hlt, h.f2' hlt]
      by_cases e1 : (opAt l (em a b i)).f0 = 29
      · rw [if_pos e1] at ho ⊢
        have h3 := and2 ho
        have h4 := and2 h3.1
        have h5 := and2 h4.1
        have hc := h5.1
        have hcl := casesB_len hc (by omega)
        -- the cases stay together
        have hside : ∀ m, m ≤ (opAt l (em a b i)).f2.toNat → em a b (i + m) = em a b i + m := by
          intro m
          induction m with
          | zero => intro _; rfl
          | succ m ihm =>
            intro hm
            have hprev := ihm (by omega)
            have hne : i + m + 1 ≠ a := fun he => by
              have hi2 : i + m < a := by omega
              have em0 : em a b (i + m) = i + m := by unfold em; rw [if_pos hi2]
              have em1 : em a b i = i := by unfold em; rw [if_pos (by omega)]
              have hc' := casesB_at (j := m) hc (by omega)
              rw [em1, show i + 1 + m = a by omega, h.f0] at hc'
              exact absurd hc'.2 (by decide)
            rw [show i + (m + 1) = i + m + 1 by omega, em_next hne, hprev]; omega
        have hcs : ∀ m k, k + m = (opAt l (em a b i)).f2.toNat → casesB l (em a b i + 1 + k) m = true → casesB l' (i + 1 + k) m = true := by
          intro m
          induction m with
          | zero => intro k _ _; rfl
          | succ m ihm =>
            intro k hk hcm
            simp only [casesB, Bool.and_eq_true, decide_eq_true_eq, beq_iff_eq] at hcm ⊢
            have hs := hside (k + 1) (by omega)
            rw [show em a b i + 1 + k = em a b i + (k + 1) by omega, ← hs] at hcm
            have hlt' : i + (k + 1) < l'.length := by
              have := hcm.1.1
              unfold em at this
              split at this
              · have := hedge; omega
              · omega
            have hr := ihm (k + 1) (by omega) (by rw [show em a b i + 1 + (k + 1) = em a b i + (k + 1) + 1 by omega, ← hs]; exact hcm.2)
            rw [show i + 1 + k = i + (k + 1) by omega]
            refine ⟨⟨hlt', ?_⟩, by rw [show i + (k + 1) + 1 = i + 1 + (k + 1) by omega]; exact hr⟩
            rw [h.f0' hlt']; exact hcm.1.2
        have hcl' := hcs _ 0 (by omega) hc
        have hcl2 := casesB_len hcl' (by omega)
        have hs := hside _ (Nat.le_refl _)
        generalize hM : (opAt l (em a b i)).f2.toNat = M at *
        have hlt2 : i + M < l'.length := by omega
        have hno : (decide (i + M + 1 < l'.length) && (opAt l' (i + M + 1)).f0 == 30) = false := by
          by_cases hq : i + M + 1 < l'.length
          · rw [decide_eq_true hq, h.f0' hq]
            by_cases he : i + M + 1 = a
            · rw [show em a b (i + M + 1) = a + b by unfold em; rw [if_neg (by omega)]; omega]
              rcases h.fin with g | g
              · omega
              · rw [g]; rfl
            · rw [em_next he, hs]
              have h6 := h5.2
              have := h.lt hq
              rw [em_next he, hs] at this
              rw [decide_eq_true (show em a b i + M + 1 < l.length by omega)] at h6
              simpa using h6
          · rw [decide_eq_false hq]; rfl
        have hgo : orderGo l (em a b (i + M + 1)) = true := by
          by_cases he : i + M + 1 = a
          · rw [show em a b (i + M + 1) = a + b by unfold em; rw [if_neg (by omega)]; omega]
            have em1 : em a b i = i := by unfold em; rw [if_pos (by omega)]
            have h7 := h3.2
            rw [em1, he] at h7
            exact order_reach l l.length a (by omega) h7 (a + b) (by omega) (by omega) h.fin
          · rw [em_next he, hs]; exact h3.2
        have hr := ih (i + M + 1) (by omega) (by omega) hgo
        rw [show i + 1 + 0 = i + 1 by omega] at hcl'
        rw [hcl', hno, hlast _ hlt2, hr]; rfl
      · rw [if_neg e1] at ho ⊢
        have hgo : orderGo l (em a b i + 1) = true → orderGo l (em a b (i + 1)) = true := fun h7 => by
          by_cases he : i + 1 = a
          · rw [show em a b (i + 1) = a + b by unfold em; rw [if_neg (by omega)]; omega]
            have em1 : em a b i = i := by unfold em; rw [if_pos (by omega)]
            rw [em1, he] at h7
            exact order_reach l l.length a (by omega) h7 (a + b) (by omega) (by omega) h.fin
          · rw [em_next he]; exact h7
        by_cases e2 : (opAt l (em a b i)).f0 = 30
        · rw [if_pos e2] at ho; exact absurd ho (by decide)
        · rw [if_neg e2] at ho ⊢
          by_cases e3 : (opAt l (em a b i)).f0 = 19
          · rw [if_pos e3] at ho ⊢
            have h3 := and2 ho
            rw [(hlab i hlt (by rw [h.f0' hlt]; exact e3)).1, hlast i hlt, ih (i + 1) (by omega) (by omega) (hgo h3.2)]; rfl
          · rw [if_neg e3] at ho ⊢
            have h3 := and2 ho
            rw [hlast i hlt, ih (i + 1) (by omega) (by omega) (hgo h3.2)]; rfl
    · obtain rfl : i = l'.length := by omega
      rw [orderGo, if_neg (by omega)]
      by_cases hz : l'.length = 0
      · rw [decide_eq_true hz]; rfl
      · have h0 : 0 < l'.length := by omega
        have h00 := order_first l l.length 0 (by omega) hl
        have hl0 : (opAt l 0).f0 = 24 := by
          rcases Bool.or_eq_true_iff.1 h00 with h3 | h3
          · have := of_decide_eq_true h3; omega
          · exact beq_iff_eq.1 h3
        have : (opAt l' 0).f0 = 24 := by
          rw [h.f0' h0]
          unfold em
          by_cases ha : 0 < a
          · rw [if_pos ha]; exact hl0
          · rw [if_neg ha]
            rcases h.fin with g | g
            · omega
            · rw [show 0 + b = a + b by omega]; exact g
        rw [this]; simp
end
end Go.Pv

namespace Go.Pv
open Go.Proofs Go.Proofs.Ytkmcanknbdaliaa.Lx
set_option maxRecDepth 20000
set_option linter.unusedSimpArgs false
/-! ### numbers of procedures -/
def Ent (l : List Op) : Prop := ∀ j, j < l.length → (opAt l j).f0 = 24 → (opAt l j).f1 = pcn l j + 1
theorem pcn_le (l : List Op) {i j : Nat} (h : i ≤ j) : pcn l i ≤ pcn l j := by
  have := pcn_mono l i (j - i)
  rwa [show i + (j - i) = j by omega] at this
theorem pcn_1 (l : List Op) (i : Nat) : pcn l (i + 1) = pcn l i + (if (opAt l i).f0 = 24 then 1 else 0) := rfl
theorem after_24 {o : Op} (d : Int) (x : D) (h : o.f0 = 24) : afterI o d x = 2 + o.f2 := by
  unfold afterI
  rw [if_neg (by rw [h]; decide), if_pos h]
section
variable {P : Int} {l l' : List Op} {a b : Nat}
theorem Wo.pcnA (h : Wo P l l' a b) (hE : Ent l) : pcn l a = P - 1 := by
  have h1 := h.len
  have h2 := h.pos
  have := hE a (by omega) h.f0
  have := h.f1
  omega
theorem Wo.pcnB (h : Wo P l l' a b) (hE : Ent l) : ∀ k, 1 ≤ k → k ≤ b → pcn l (a + k) = P
  | 0, h1, _ => by omega
  | 1, _, _ => by rw [pcn_1, if_pos h.f0, h.pcnA hE]; omega
  | k + 2, _, h2 => by
    have := h.pcnB hE (k + 1) (by omega) (by omega)
    rw [show a + (k + 2) = (a + (k + 1)) + 1 by omega, pcn_1, if_neg (h.mid _ (by omega) (by omega)), this]; omega
theorem Wo.pcnC (h : Wo P l l' a b) (hE : Ent l) {j : Nat} (hj : a + b < j) (hl : j ≤ l.length) : P + 1 ≤ pcn l j := by
  have h1 := h.pcnB hE b h.pos (Nat.le_refl _)
  rcases h.fin with g | g
  · omega
  · have h2 := pcn_1 l (a + b)
    rw [if_pos g, h1] at h2
    have := pcn_le l (show a + b + 1 ≤ j by omega)
    omega
theorem Wo.pcn' (h : Wo P l l' a b) (hE : Ent l) : ∀ j, j ≤ l'.length → pcn l' j = if j ≤ a then pcn l j else pcn l (j + b) - 1
  | 0, _ => by rw [if_pos (by omega)]; rfl
  | j + 1, hj => by
    have ih := h.pcn' hE j (by omega)
    rw [pcn_1, h.f0' (by omega), ih]
    unfold em
    by_cases e1 : j < a
    · rw [if_pos e1, if_pos (show j ≤ a by omega), if_pos (show j + 1 ≤ a by omega), pcn_1]
    · rw [if_neg e1, if_neg (show ¬ j + 1 ≤ a by omega), show j + 1 + b = (j + b) + 1 by omega, pcn_1]
      by_cases e2 : j = a
      · rw [if_pos (show j ≤ a by omega), e2, h.pcnB hE b h.pos (Nat.le_refl _), h.pcnA hE]; omega
      · rw [if_neg (show ¬ j ≤ a by omega)]; omega
theorem Wo.keep (h : Wo P l l' a b) (hE : Ent l) {k : Nat} (hk : k < l.length) (hp : pcn l (k + 1) ≠ P) : ∃ k', k' < l'.length ∧ em a b k' = k := by
  have h1 := h.n
  have h2 := h.len
  by_cases e : k < a
  · exact ⟨k, by omega, by unfold em; rw [if_pos e]⟩
  · by_cases e2 : k < a + b
    · exfalso; apply hp
      have := h.pcnB hE (k + 1 - a) (by omega) (by omega)
      rwa [show a + (k + 1 - a) = k + 1 by omega] at this
    · exact ⟨k - b, by omega, by unfold em; rw [if_neg (by omega)]; omega⟩
theorem Wo.kept (h : Wo P l l' a b) (hE : Ent l) {i : Nat} (hi : i < l'.length) : pcn l (em a b i + 1) ≠ P := by
  have h1 := h.n
  have h2 := h.pcnA hE
  unfold em
  by_cases e : i < a
  · rw [if_pos e]
    have := pcn_le l (show i + 1 ≤ a by omega)
    omega
  · rw [if_neg e]
    have := h.pcnC hE (j := i + b + 1) (by omega) (by omega)
    omega
theorem em_inj {i j : Nat} (h : em a b i = em a b j) : i = j := by
  unfold em at h
  split at h <;> split at h <;> omega
theorem Wo.ent (h : Wo P l l' a b) (hE : Ent l) : Ent l' := by
  intro j hj h24
  have hl := h.lt hj
  rw [h.f0' hj] at h24
  have h1 := hE _ hl h24
  have hp := h.pcn' hE j (by omega)
  have hk := h.kept hE hj
  rw [pcn_1, if_pos h24] at hk
  rw [h.at_ j hj, sh_f1e P h24, hp]
  have h2 := h.pcnA hE
  have h5 := h.n
  by_cases e : j < a
  · have em0 : em a b j = j := by unfold em; rw [if_pos e]
    rw [em0] at h1 ⊢
    have h3 := pcn_le l (show j + 1 ≤ a by omega)
    rw [pcn_1] at h3
    rw [em0] at h24
    rw [if_pos h24] at h3
    rw [if_pos (show j ≤ a by omega), if_neg (show ¬ (opAt l j).f1 > P by omega)]; exact h1
  · have em0 : em a b j = j + b := by unfold em; rw [if_neg e]
    rw [em0] at h1 ⊢
    by_cases e2 : j = a
    · have h3 := h.pcnB hE b h.pos (Nat.le_refl _)
      rw [e2, h3] at h1
      rw [if_pos (show j ≤ a by omega), e2, if_pos (show (opAt l (a + b)).f1 > P by omega), h2]; omega
    · have h3 := h.pcnC hE (j := j + b) (by omega) (by omega)
      rw [if_neg (show ¬ j ≤ a by omega), if_pos (show (opAt l (j + b)).f1 > P by omega)]; omega
end
/-! ### places, by places -/
theorem lastL_ge : ∀ (l : List Op) (q : Int), q ≤ lastL l q ∧ ∀ o ∈ l, o.f0 = 19 → o.f1 ≤ lastL l q
  | [], q => ⟨Int.le_refl _, fun o h => by cases h⟩
  | o :: l, q => by
    obtain ⟨h1, h2⟩ := lastL_ge l (if o.f0 = 19 then mx q o.f1 else q)
    rw [lastL]
    have hm : ∀ x y : Int, x ≤ mx x y ∧ y ≤ mx x y := fun x y => by unfold mx; split <;> omega
    constructor
    · refine Int.le_trans ?_ h1
      split
      · exact (hm _ _).1
      · exact Int.le_refl _
    · intro o' ho h19
      rcases List.mem_cons.1 ho with e | ho
      · subst e
        rw [if_pos h19] at h1 ⊢
        exact Int.le_trans (hm q _).2 h1
      · exact h2 o' ho h19
theorem lastL_le (B : Int) : ∀ (l : List Op) (q : Int), q ≤ B → (∀ o ∈ l, o.f0 = 19 → o.f1 ≤ B) → lastL l q ≤ B
  | [], q, h, _ => h
  | o :: l, q, h, hl => by
    rw [lastL]
    refine lastL_le B l _ ?_ fun o h => hl o (List.mem_cons_of_mem _ h)
    split
    · rename_i e
      have := hl o (List.mem_cons_self ..) e
      unfold mx; split <;> omega
    · exact h
structure LabS (m : List Op) (L : Nat) : Prop where
  bd : ∀ j, j < m.length → (opAt m j).f0 = 19 → 0 ≤ (opAt m j).f1 ∧ (opAt m j).f1 ≤ L ∧ 0 < pcn m j
  dis : ∀ j k, j < k → k < m.length → (opAt m j).f0 = 19 → (opAt m k).f0 = 19 → (opAt m j).f1 ≠ (opAt m k).f1
theorem placL_ok (m : List Op) (L : Nat) (hE : Ent m) (hS : LabS m L) : ∀ (n i : Nat) (q : Int) (xs ys : List D), m.length - i = n → i ≤ m.length → xs.length = L + 1 → ys.length = L + 1 → (∀ j, i ≤ j → j < m.length → (opAt m j).f0 = 19 → (rd ys (opAt m j).f1.toNat).int = 0) →
    ∃ z, placL (m.drop i) i (pcn m i) q xs ys = some z ∧ z.2.2.1 = pcn m m.length ∧ z.2.2.2 = lastL (m.drop i) q ∧ (∀ j, i ≤ j → j < m.length → (opAt m j).f0 = 19 → rd z.1 (opAt m j).f1.toNat = .i (j : Int) ∧ rd z.2.1 (opAt m j).f1.toNat = .i (pcn m j)) ∧
      ∀ x : Nat, (∀ j, i ≤ j → j < m.length → (opAt m j).f0 = 19 → (opAt m j).f1.toNat ≠ x) → rd z.1 x = rd xs x ∧ rd z.2.1 x = rd ys x
  | 0, i, q, xs, ys, hn, hi, hx, hy, hz => by
    obtain rfl : i = m.length := by omega
    rw [List.drop_length]
    exact ⟨_, rfl, rfl, rfl, fun j h1 h2 => by omega, fun x _ => ⟨rfl, rfl⟩⟩
  | n + 1, i, q, xs, ys, hn, hi, hx, hy, hz => by
    have hlt : i < m.length := by omega
    rw [drop_rd m i hlt, placL, lastL]
    have hp := pcn_1 m i
    by_cases e1 : (rd m i).f0 = 24
    · rw [if_pos e1, if_pos (hE i hlt e1), if_neg (by rw [e1]; decide)]
      rw [if_pos e1] at hp
      obtain ⟨z, z1, z2, z3, z4, z5⟩ := placL_ok m L hE hS n (i + 1) q xs ys (by omega) (by omega) hx hy (fun j h1 h2 => hz j (by omega) h2)
      rw [hp] at z1
      refine ⟨z, z1, z2, z3, fun j h1 h2 h3 => ?_, fun x hxx => z5 x fun j h1 h2 => hxx j (by omega) h2⟩
      by_cases ej : i = j
      · subst ej; exact absurd (h3.symm.trans e1) (by decide)
      · exact z4 j (by omega) h2 h3
    · rw [if_neg e1]
      rw [if_neg e1, Int.add_zero] at hp
      by_cases e2 : (rd m i).f0 = 19
      · obtain ⟨b1, b2, b3⟩ : 0 ≤ (rd m i).f1 ∧ (rd m i).f1 ≤ L ∧ 0 < pcn m i := hS.bd i hlt e2
        rw [if_pos e2, if_pos e2, if_neg (by
          rintro (h | h)
          · exact h (hz i (Nat.le_refl _) hlt e2)
          · omega)]
        obtain ⟨z, z1, z2, z3, z4, z5⟩ := placL_ok m L hE hS n (i + 1) (mx q (rd m i).f1) (xs.set (rd m i).f1.toNat (.i i)) (ys.set (rd m i).f1.toNat (.i (pcn m i))) (by omega) (by omega) (by simpa using hx) (by simpa using hy) (fun j h1 h2 h3 => by
          have hd := hS.dis i j (by omega) h2 e2 h3
          have hb := hS.bd j h2 h3
          rw [rd_setI, if_neg (fun h => hd (by
            have h1 : (rd m i).f1.toNat = (opAt m j).f1.toNat := h.1
            show (rd m i).f1 = (opAt m j).f1
            omega))]
          exact hz j (by omega) h2 h3)
        rw [hp] at z1
        refine ⟨z, z1, z2, z3, fun j h1 h2 h3 => ?_, fun x hxx => ?_⟩
        · by_cases ej : i = j
          · subst ej
            obtain ⟨q1, q2⟩ := z5 (rd m i).f1.toNat fun k h4 h5 h6 => by
              have hd := hS.dis i k (by omega) h5 e2 h6
              have hb := hS.bd k h5 h6
              intro he
              apply hd
              show (rd m i).f1 = (opAt m k).f1
              omega
            rw [q1, q2, rd_setI, rd_setI, if_pos ⟨rfl, by omega⟩, if_pos ⟨rfl, by omega⟩]
            exact ⟨rfl, rfl⟩
          · exact z4 j (by omega) h2 h3
        · obtain ⟨q1, q2⟩ := z5 x fun j h1 h2 => hxx j (by omega) h2
          have hne := hxx i (Nat.le_refl _) hlt e2
          rw [q1, q2, rd_setI, rd_setI, if_neg (fun h => hne h.1), if_neg (fun h => hne h.1)]
          exact ⟨rfl, rfl⟩
      · rw [if_neg e2, if_neg e2]
        obtain ⟨z, z1, z2, z3, z4, z5⟩ := placL_ok m L hE hS n (i + 1) q xs ys (by omega) (by omega) hx hy (fun j h1 h2 => hz j (by omega) h2)
        rw [hp] at z1
        refine ⟨z, z1, z2, z3, fun j h1 h2 h3 => ?_, fun x hxx => z5 x fun j h1 h2 => hxx j (by omega) h2⟩
        by_cases ej : i = j
        · subst ej; exact absurd h3 e2
        · exact z4 j (by omega) h2 h3
theorem dis_not : ∀ (l : List Op) (s : List Int) (x : Int), (labR l s).Nodup → x ∈ s → ∀ k, k < l.length → (opAt l k).f0 = 19 → (opAt l k).f1 ≠ x
  | [], s, x, h, hx, k, hk, h19 => by simp at hk
  | o :: l, s, x, h, hx, k, hk, h19 => by
    rw [labR] at h
    cases k with
    | zero =>
      have h19 : o.f0 = 19 := h19
      rw [if_pos h19] at h
      obtain ⟨t, ht⟩ := labR_app l (o.f1 :: s)
      rw [ht] at h
      have h2 := (List.nodup_append.1 h).2.1
      intro he
      have he : o.f1 = x := he
      rw [he] at h2
      exact (List.nodup_cons.1 h2).1 hx
    | succ k =>
      refine dis_not l _ x h ?_ k (by simpa using hk) h19
      split
      · exact List.mem_cons_of_mem _ hx
      · exact hx
theorem dis_of : ∀ (l : List Op) (s : List Int), (labR l s).Nodup → ∀ j k, j < k → k < l.length → (opAt l j).f0 = 19 → (opAt l k).f0 = 19 → (opAt l j).f1 ≠ (opAt l k).f1
  | [], s, h, j, k, hjk, hk, h1, h2 => by simp at hk
  | o :: l, s, h, j, k, hjk, hk, h1, h2 => by
    rw [labR] at h
    obtain ⟨k, rfl⟩ : ∃ m, k = m + 1 := ⟨k - 1, by omega⟩
    cases j with
    | zero =>
      have h1' : o.f0 = 19 := h1
      rw [if_pos h1'] at h
      have := dis_not l _ o.f1 h (List.mem_cons_self ..) k (by simpa using hk) h2
      exact fun e => this e.symm
    | succ j => exact dis_of l _ h j k (by omega) (by simpa using hk) h1 h2
theorem mem_at {l : List Op} {o : Op} (h : o ∈ l) : ∃ i, i < l.length ∧ opAt l i = o := by
  obtain ⟨i, hi, e⟩ := List.mem_iff_getElem.1 h
  exact ⟨i, hi, by have := rd_get hi; rw [List.getElem?_eq_getElem hi, e] at this; exact (Option.some.inj this).symm⟩
theorem ent_of {c : D} (hv : Valid c) : Ent c.ops := fun j hj h => scan_enters (l := c.ops) c.ops.length 0 0 (by omega) (valid_scan hv) j (by omega) hj h
theorem labS_of {c : D} (hv : Valid c) {L : Nat} (hL : c.labels = L) : LabS c.ops L where
  bd j hj h := by
    have := labels_ok hv.st.ops _ (rd_mem hj) h
    have h24 := first_enter hv.st.ord (Nat.lt_of_le_of_lt (Nat.zero_le _) hj)
    have hj0 : 0 < j := by
      rcases Nat.eq_zero_or_pos j with e | e
      · subst e; exact absurd (h.symm.trans h24) (by decide)
      · exact e
    refine ⟨this.1, by rw [← hL]; exact this.2, pcn_pos h24 j hj0⟩
  dis := dis_of c.ops [] (labs_ok hv)
/-! ### names, by places -/
theorem names_iff (m : List Op) (hE : Ent m) (xs ys : List D) : ∀ (n i : Nat), m.length - i = n → i ≤ m.length → (namesB xs ys (m.drop i) (pcn m i) = true ↔ ∀ j, i ≤ j → j < m.length → namedI (opAt m j) > 0 → (rd ys (namedI (opAt m j)).toNat).int = pcn m (j + 1) ∧ (rd xs (namedI (opAt m j)).toNat).int ≠ 0)
  | 0, i, hn, hi => by
    obtain rfl : i = m.length := by omega
    rw [List.drop_length]
    exact ⟨fun _ j h1 h2 => by omega, fun _ => rfl⟩
  | n + 1, i, hn, hi => by
    have hlt : i < m.length := by omega
    have ih := names_iff m hE xs ys n (i + 1) (by omega) (by omega)
    have hp : (if (rd m i).f0 = 24 then (rd m i).f1 else pcn m i) = pcn m (i + 1) := by
      rw [pcn_1]
      by_cases e : (rd m i).f0 = 24
      · rw [if_pos e, if_pos e]; exact hE i hlt e
      · rw [if_neg e, if_neg e]; omega
    rw [drop_rd m i hlt, namesB, hp]
    by_cases h : namedI (rd m i) > 0 ∧ ((rd ys (namedI (rd m i)).toNat).int ≠ pcn m (i + 1) ∨ (rd xs (namedI (rd m i)).toNat).int = 0)
    · rw [if_pos h]
      refine ⟨fun hh => absurd hh (by decide), fun hh => ?_⟩
      obtain ⟨q1, q2⟩ := hh i (Nat.le_refl _) hlt h.1
      rcases h.2 with g | g
      · exact absurd q1 g
      · exact absurd g q2
    · rw [if_neg h, ih]
      refine ⟨fun hh j h1 h2 h3 => ?_, fun hh j h1 h2 => hh j (by omega) h2⟩
      by_cases ej : i = j
      · subst ej
        refine ⟨Classical.byContradiction fun g => h ⟨h3, .inl g⟩, fun g => h ⟨h3, .inr g⟩⟩
      · exact hh j (by omega) h2 h3
/-! ### the stack, by places -/
def dpt (l : List Op) : Nat → Int
  | 0 => 0
  | i + 1 => afterI (opAt l i) (dpt l i) (kindAt (opAt l i).f0)
theorem stack_iff (l : List Op) (xs : List D) : ∀ (n i : Nat), l.length - i ≤ n → (stackGo l xs i (dpt l i) = true ↔ ∀ j, i ≤ j → j < l.length → roundOk l xs j (dpt l j) = true)
  | 0, i, hn => by
    rw [stackGo, if_neg (by omega)]
    exact ⟨fun _ j h1 h2 => by omega, fun _ => rfl⟩
  | n + 1, i, hn => by
    rw [stackGo]
    by_cases hi : i < l.length
    · rw [if_pos hi]
      have ih := stack_iff l xs n (i + 1) (by omega)
      by_cases h : roundOk l xs i (dpt l i) = true
      · rw [if_pos h, show afterI (opAt l i) (dpt l i) (kindAt (opAt l i).f0) = dpt l (i + 1) from rfl, ih]
        refine ⟨fun hh j h1 h2 => ?_, fun hh j h1 h2 => hh j (by omega) h2⟩
        by_cases ej : i = j
        · rw [← ej]; exact h
        · exact hh j (by omega) h2
      · rw [if_neg h]
        exact ⟨fun hh => absurd hh (by decide), fun hh => absurd (hh i (Nat.le_refl _) hi) h⟩
    · rw [if_neg hi]
      exact ⟨fun _ j h1 h2 => by omega, fun _ => rfl⟩
theorem lead_step (l : List Op) {k : Nat} (hk : k < l.length) : leadOp l k = if (opAt l k).f0 = 19 then leadOp l (k + 1) else opAt l k := by
  unfold leadOp
  rw [drop_rd l k hk, leadsL]
  by_cases e : (rd l k).f0 = 19
  · rw [if_pos e, if_pos e]
  · rw [if_neg e, if_neg e]; rfl
section
variable {P : Int} {l l' : List Op} {a b : Nat}
theorem Wo.lab (h : Wo P l l' a b) (hl : orderGo l 0 = true) {i : Nat} (hi : i < l'.length) (h19 : (opAt l' i).f0 = 19) : i + 1 < l'.length ∧ i + 1 ≠ a := by
  rw [h.f0' hi] at h19
  have h1 := h.n
  have h2 := h.len
  have := (order_at l l.length 0 (by omega) hl _ (by omega) (h.lt hi)).1 h19
  unfold labelOk at this
  have h3 := and2 this
  have h4 := of_decide_eq_true h3.1
  have hne : i + 1 ≠ a := fun he => by
    have em0 : em a b i = i := by unfold em; rw [if_pos (by omega)]
    rw [em0, he, h.f0] at h3
    exact absurd h3.2 (by decide)
  refine ⟨?_, hne⟩
  have := em_next (b := b) hne
  unfold em at this h4
  split at this <;> split at h4 <;> omega
theorem Wo.lead (h : Wo P l l' a b) (hl : orderGo l 0 = true) : ∀ (n k : Nat), l'.length - k ≤ n → k < l'.length → (leadOp l' k).f0 = (leadOp l (em a b k)).f0
  | 0, k, hn, hk => by omega
  | n + 1, k, hn, hk => by
    rw [lead_step l' hk, lead_step l (h.lt hk), ← h.f0' hk]
    by_cases e : (opAt l' k).f0 = 19
    · obtain ⟨h1, h2⟩ := h.lab hl hk e
      rw [if_pos e, if_pos e, ← em_next h2]
      exact h.lead hl n (k + 1) (by omega) h1
    · rw [if_neg e, if_neg e, h.f0' hk]
theorem Wo.dpt' (h : Wo P l l' a b) : ∀ j, j ≤ l'.length → dpt l' j = if j ≤ a then dpt l j else dpt l (j + b)
  | 0, _ => by rw [if_pos (by omega)]; rfl
  | j + 1, hj => by
    have ih := h.dpt' j (by omega)
    rw [dpt, h.f0' (by omega), h.at_ j (by omega), sh_after, ih]
    unfold em
    by_cases e1 : j < a
    · rw [if_pos e1, if_pos (by omega), if_pos (by omega)]; rfl
    · rw [if_neg e1, if_neg (show ¬ j + 1 ≤ a by omega), show j + 1 + b = (j + b) + 1 by omega, dpt]
      by_cases e2 : j = a
      · have hf : (opAt l (j + b)).f0 = 24 := by
          rcases h.fin with g | g
          · have := h.n; omega
          · rw [e2]; exact g
        rw [after_24 _ _ hf, after_24 _ _ hf]
      · rw [if_neg (by omega)]
end
end Go.Pv

namespace Go.Pv
open Go.Proofs Go.Proofs.Ytkmcanknbdaliaa.Lx
set_option maxRecDepth 20000
set_option linter.unusedSimpArgs false
def woD (c : D) (P : Int) : CodeT := (c.s0, c.data.map cpR, woL P c.ops 0, [], c.procs - 1, lastL (woL P c.ops 0) 0, ())
theorem kind5_inv (n : Int) (h0 : 1 ≤ n) (h1 : n < 31) : (kindAt n).f1 = 5 ↔ (n = 11 ∨ n = 24) := by
  have k : (List.range 31).all (fun n => ((kindAt (n : Nat)).f1 == 5) == (Nat.beq n 11 || Nat.beq n 24)) = true := by kernel_rfl
  have k1 := List.all_eq_true.1 k n.toNat (List.mem_range.2 (by omega))
  rw [show ((n.toNat : Nat) : Int) = n by omega] at k1
  rw [beq_iff_eq] at k1
  constructor
  · intro h
    rw [h] at k1
    have k2 : (Nat.beq n.toNat 11 || Nat.beq n.toNat 24) = true := by rw [← k1]; rfl
    simp only [Bool.or_eq_true, Nat.beq_eq] at k2
    omega
  · intro h
    have : (Nat.beq n.toNat 11 || Nat.beq n.toNat 24) = true := by
      simp only [Bool.or_eq_true, Nat.beq_eq]; omega
    rw [this] at k1
    exact beq_iff_eq.1 k1
theorem sh_proc {P M : Int} {o : Op} (h : o.f0 = 11 ∨ o.f0 = 24) (h1 : 1 ≤ o.f1) (h2 : o.f1 ≤ M) (hM : 2 ≤ M) (hP : 1 ≤ P ∧ P ≤ M) (hn : o.f0 = 24 → o.f1 ≠ P) : 1 ≤ (shO P o).f1 ∧ (shO P o).f1 ≤ M - 1 := by
  unfold shO
  by_cases e : (o.f0 = 24 ∨ o.f0 = 11) ∧ o.f1 > P
  · rw [if_pos e]
    show 1 ≤ o.f1 - 1 ∧ o.f1 - 1 ≤ M - 1
    omega
  · rw [if_neg e]
    have hle : o.f1 ≤ P := Int.not_lt.1 fun h' => e ⟨h.symm, h'⟩
    by_cases e2 : o.f0 = 11 ∧ o.f1 = P
    · rw [if_pos e2]
      show (1 : Int) ≤ 1 ∧ (1 : Int) ≤ M - 1
      omega
    · rw [if_neg e2]
      have : o.f1 ≠ P := fun h' => by
        rcases h with h | h
        · exact e2 ⟨h, h'⟩
        · exact hn h h'
      omega
section
variable {P : Int} {l l' : List Op} {a b : Nat}
/-- What is known of a name in what stays. -/
structure Nm (l' : List Op) (a b : Nat) (xs : List D) (i k : Nat) : Prop where
  lt : k < l'.length
  f0 : (opAt l' k).f0 = 19
  f1 : (opAt l' k).f1.toNat = (namedI (opAt l' i)).toNat
  at_ : rd xs (namedI (opAt l' i)).toNat = .i (em a b k : Nat)
  pc : pcn l' k = pcn l' (i + 1)
theorem Wo.named (h : Wo P l l' a b) (hE : Ent l) {xs ys : List D} (hP : ∀ j, j < l.length → (opAt l j).f0 = 19 → rd xs (opAt l j).f1.toNat = .i (j : Int) ∧ rd ys (opAt l j).f1.toNat = .i (pcn l j))
    (hQ : ∀ x : Nat, (∀ j, j < l.length → (opAt l j).f0 = 19 → (opAt l j).f1.toNat ≠ x) → rd xs x = .i 0)
    (hN : ∀ j, j < l.length → namedI (opAt l j) > 0 → (rd ys (namedI (opAt l j)).toNat).int = pcn l (j + 1) ∧ (rd xs (namedI (opAt l j)).toNat).int ≠ 0)
    {i : Nat} (hi : i < l'.length) (hn : namedI (opAt l' i) > 0) : ∃ k, Nm l' a b xs i k := by
  have e : namedI (opAt l' i) = namedI (opAt l (em a b i)) := by rw [h.at_ i hi, sh_named]
  rw [e] at hn
  obtain ⟨n1, n2⟩ := hN _ (h.lt hi) hn
  have hex : ∃ k, k < l.length ∧ (opAt l k).f0 = 19 ∧ (opAt l k).f1.toNat = (namedI (opAt l (em a b i))).toNat := by
    apply Classical.byContradiction
    intro hno
    have := hQ (namedI (opAt l (em a b i))).toNat fun j h1 h2 h3 => hno ⟨j, h1, h2, h3⟩
    rw [this] at n2
    exact n2 rfl
  obtain ⟨k, k1, k2, k3⟩ := hex
  obtain ⟨p1, p2⟩ := hP k k1 k2
  rw [k3] at p1 p2
  have hpc : pcn l k = pcn l (em a b i + 1) := by rw [p2] at n1; exact n1
  have hk1 : pcn l (k + 1) = pcn l k := by rw [pcn_1, if_neg (by rw [k2]; decide), Int.add_zero]
  have hkp := h.kept hE hi
  obtain ⟨k', q1, q2⟩ := h.keep hE k1 (by rw [hk1, hpc]; exact hkp)
  have hl2 : (opAt l' k').f0 = 19 := by rw [h.f0' q1, q2]; exact k2
  refine ⟨k', q1, hl2, ?_, by rw [e, q2]; exact p1, ?_⟩
  · rw [h.at_ k' q1, sh_f1 P (by rw [q2, k2]; decide) (by rw [q2, k2]; decide), q2, e]; exact k3
  · have hA := h.pcnA hE
    have hB := h.pcnB hE b h.pos (Nat.le_refl _)
    have hn1 := h.n
    rw [h.pcn' hE k' (by omega), h.pcn' hE (i + 1) (by omega)]
    by_cases ei : i < a
    · have em0 : em a b i = i := by unfold em; rw [if_pos ei]
      rw [em0] at hpc
      have h3 := pcn_le l (show i + 1 ≤ a by omega)
      have hk : k' < a := by
        apply Classical.byContradiction
        intro hge
        have em1 : em a b k' = k' + b := by unfold em; rw [if_neg hge]
        have h4 := pcn_le l (show a + b ≤ k by omega)
        omega
      have em1 : em a b k' = k' := by unfold em; rw [if_pos hk]
      rw [if_pos (show k' ≤ a by omega), if_pos (show i + 1 ≤ a by omega), ← em1, q2]; exact hpc
    · have em0 : em a b i = i + b := by unfold em; rw [if_neg ei]
      rw [em0] at hpc
      have h3 := h.pcnC hE (j := i + b + 1) (by omega) (by omega)
      have hk : ¬ k' < a := by
        intro hlt
        have em1 : em a b k' = k' := by unfold em; rw [if_pos hlt]
        have h4 := pcn_le l (show k ≤ a by omega)
        omega
      have em1 : em a b k' = k' + b := by unfold em; rw [if_neg hk]
      have hka : k' ≠ a := by
        intro ha
        rcases h.fin with g | g
        · omega
        · rw [show a + b = k by omega, k2] at g; exact absurd g (by decide)
      rw [if_neg (show ¬ k' ≤ a by omega), if_neg (show ¬ i + 1 ≤ a by omega), ← em1, q2, show i + 1 + b = i + b + 1 by omega, hpc]
end
theorem wo_valid {c : D} (hv : Valid c) {P : Int} (h1 : 1 ≤ P) (h2 : P ≤ c.procs) (h3 : 2 ≤ c.procs) : Valid (toD (woD c P)) := by
  have hc := coded_iff.1 hv.coded
  have hlim := hv.lim
  have hf := hv.fine
  obtain ⟨a, b, pc⟩ := wo1 P c.ops 0 0 (valid_scan hv) (by omega) h2
  have W := wo_of pc
  have hE := ent_of hv
  have hE' := W.ent hE
  obtain ⟨L, hL⟩ : ∃ L : Nat, c.labels = L := ⟨c.labels.toNat, by have := hv.st.l; omega⟩
  have hS := labS_of hv hL
  generalize hl' : woL P c.ops 0 = l' at *
  have hn := W.n
  have hlen := W.len
  -- the order
  have hord : orderGo c.ops 0 = true := hc.ord
  have hord' : orderGo l' 0 = true := by
    refine W.order hord l'.length 0 (by omega) (by omega) ?_
    unfold em
    by_cases ha : 0 < a
    · rw [if_pos ha]; exact hord
    · rw [if_neg ha, show 0 + b = a + b by omega]
      exact order_reach c.ops c.ops.length 0 (by omega) hord (a + b) (by omega) (by omega) W.fin
  have hfirst : 0 < l'.length → (opAt l' 0).f0 = 24 := fun h0 => by
    rcases Bool.or_eq_true_iff.1 (order_first l' l'.length 0 (by omega) hord') with g | g
    · have := of_decide_eq_true g; omega
    · exact beq_iff_eq.1 g
  -- labels
  have hge := lastL_ge l' 0
  have hlabel : ∀ j, j < l'.length → (opAt l' j).f0 = 19 → (opAt l' j).f1 = (opAt c.ops (em a b j)).f1 ∧ (opAt c.ops (em a b j)).f0 = 19 := fun j hj h19 => by
    have h19' : (opAt c.ops (em a b j)).f0 = 19 := by rw [← W.f0' hj]; exact h19
    exact ⟨by rw [W.at_ j hj, sh_f1 P (by rw [h19']; decide) (by rw [h19']; decide)], h19'⟩
  have hmem : ∀ o ∈ l', ∃ j, j < l'.length ∧ opAt l' j = o := fun o ho => mem_at ho
  have hle : lastL l' 0 ≤ c.labels := lastL_le _ l' 0 (by omega) fun o ho h19 => by
    obtain ⟨j, hj, rfl⟩ := hmem o ho
    obtain ⟨q1, q2⟩ := hlabel j hj h19
    have := hS.bd _ (W.lt hj) q2
    omega
  obtain ⟨L', hL'⟩ : ∃ L' : Nat, lastL l' 0 = L' := ⟨(lastL l' 0).toNat, by have := hge.1; omega⟩
  have hS' : LabS l' L' := by
    refine ⟨fun j hj h19 => ?_, fun j k hjk hk e1 e2 => ?_⟩
    · obtain ⟨q1, q2⟩ := hlabel j hj h19
      have := hS.bd _ (W.lt hj) q2
      have h5 := hge.2 _ (rd_mem hj) h19
      have h24 := hfirst (by omega)
      have hj0 : 0 < j := by
        rcases Nat.eq_zero_or_pos j with e | e
        · subst e; exact absurd (h19.symm.trans h24) (by decide)
        · exact e
      exact ⟨by omega, by rw [← hL']; exact h5, pcn_pos h24 j hj0⟩
    · obtain ⟨q1, q2⟩ := hlabel j (by omega) e1
      obtain ⟨q3, q4⟩ := hlabel k hk e2
      rw [q1, q3]
      have hne : em a b j < em a b k := by unfold em; split <;> split <;> omega
      exact hS.dis _ _ hne (W.lt hk) q2 q4
  -- places
  obtain ⟨z, hz, e1, e2⟩ := pl_of hc.pl
  obtain ⟨z2, hz2, -, -, zP, zQ⟩ := placL_ok c.ops L hE hS c.ops.length 0 0 (zeros L) (zeros L) (by omega) (by omega) (by simp [zeros]) (by simp [zeros]) (fun j _ _ _ => by rw [rd_zeros]; rfl)
  have hz3 := hz.eq
  rw [hL, show ((L : Int)).toNat = L from rfl] at hz3
  rw [List.drop_zero, show pcn c.ops 0 = 0 from rfl, hz3] at hz2
  obtain rfl := Option.some.inj hz2
  obtain ⟨z', hz', zp', zl', zP', zQ'⟩ := placL_ok l' L' hE' hS' l'.length 0 0 (zeros L') (zeros L') (by omega) (by omega) (by simp [zeros]) (by simp [zeros]) (fun j _ _ _ => by rw [rd_zeros]; rfl)
  rw [List.drop_zero, show pcn l' 0 = 0 from rfl] at hz'
  rw [List.drop_zero] at zl'
  have hN := (names_iff c.ops hE z.1 z.2.1 c.ops.length 0 (by omega) (by omega)).1 (by rw [List.drop_zero, ← e1, ← e2]; exact hc.names)
  have hnm := fun {i : Nat} (hi : i < l'.length) (hn : namedI (opAt l' i) > 0) => W.named hE (xs := z.1) (ys := z.2.1) (fun j hj h => zP j (by omega) hj h) (fun x hx => by rw [(zQ x fun j _ hj h => hx j hj h).1, rd_zeros]) (fun j hj h => hN j (by omega) hj h) hi hn
  have hpfin : pcn l' l'.length = c.procs - 1 := by
    have hfin : c.procs = pcn c.ops c.ops.length := scan_fin (l := c.ops) (r := (c.procs, c.labels)) c.ops.length 0 0 (by omega) (by omega) (valid_scan hv)
    rw [W.pcn' hE _ (Nat.le_refl _), hn]
    by_cases ea : l'.length ≤ a
    · rw [if_pos ea]
      have : a = l'.length := by omega
      rw [← this, W.pcnA hE]
      have hB := W.pcnB hE b W.pos (Nat.le_refl _)
      rw [show a + b = c.ops.length by omega] at hB
      omega
    · rw [if_neg ea]; omega
  let d : D := toD (woD c P)
  have dops : d.ops = l' := hl'
  have dlab : d.labels = L' := by show lastL (woL P c.ops 0) 0 = _; rw [hl', hL']
  have hPl : Pl d z' := by
    refine ⟨?_, by rw [zp', hpfin]; rfl, by rw [zl', dlab]; exact hL'⟩
    rw [dops, dlab]; exact hz'
  have e3 := pl_to hPl
  have hk0 : ∀ {i k : Nat}, Nm l' a b z.1 i k → k ≠ 0 := fun {i k} m hk => by
    subst hk
    exact absurd ((hfirst m.lt).symm.trans m.f0) (by decide)
  have hcd : Coded d := by
    refine ⟨hc.name, by show 0 ≤ c.procs - 1; omega, by rw [dlab]; omega, ?_, by rw [e3], by rw [dops]; exact hord', ?_, ?_⟩
    · refine List.all_eq_true.2 fun o ho => ?_
      rw [dops] at ho
      obtain ⟨j, hj, rfl⟩ := hmem o ho
      have hk := List.all_eq_true.1 hc.ops _ (rd_mem (W.lt hj))
      have hkept := W.kept hE hj
      have hnmj := hnm hj
      have hname : namedI (opAt l' j) = namedI (opAt c.ops (em a b j)) := by rw [W.at_ j hj, sh_named]
      have h24 : (opAt c.ops (em a b j)).f0 = 24 → (opAt c.ops (em a b j)).f1 ≠ P := fun h => by
        rw [pcn_1, if_pos h] at hkept
        have := hE _ (W.lt hj) h
        omega
      have hsl : namedI (opAt l' j) > 0 → namedI (opAt l' j) ≤ L' := fun h => by
        obtain ⟨k, m⟩ := hnmj h
        have q := hS'.bd k m.lt m.f0
        have q2 := m.f1
        omega
      rw [W.at_ j hj]
      show opOk d (shO P (opAt c.ops (em a b j))) = true
      change opOk c (opAt c.ops (em a b j)) = true at hk
      rw [hname] at hsl
      have h19l : (opAt c.ops (em a b j)).f0 = 19 → (opAt c.ops (em a b j)).f1 ≤ L' := fun h => by
        have q := hS'.bd j hj (by rw [W.f0' hj]; exact h)
        have := (hlabel j hj (by rw [W.f0' hj]; exact h)).1
        omega
      generalize opAt c.ops (em a b j) = o at *
      unfold opOk at hk ⊢
      rw [sh_f0]
      simp only [Bool.and_eq_true, decide_eq_true_eq] at hk ⊢
      obtain ⟨⟨k1, k2⟩, k3⟩ := hk
      refine ⟨⟨k1, k2⟩, ?_⟩
      unfold numbersB at k3 ⊢
      simp only [Bool.and_eq_true] at k3 ⊢
      obtain ⟨k4, k5⟩ := k3
      have ddata : d.data.length = c.data.length := by show (c.data.map cpR).length = _; simp
      have dprocs : d.procs = c.procs - 1 := rfl
      constructor
      · by_cases h5 : (kindAt o.f0).f1 = 5
        · have hx := (kind5_inv _ k1 k2).1 h5
          rw [h5] at k4 ⊢
          have k4 := inIv_iff.1 (show inIv o.f1 1 c.procs = true from k4)
          show inIv (shO P o).f1 1 d.procs = true
          rw [dprocs]
          exact inIv_iff.2 (sh_proc hx k4.1 k4.2 h3 ⟨h1, h2⟩ h24)
        · have hx : ¬ (o.f0 = 11 ∨ o.f0 = 24) := fun h => h5 ((kind5_inv _ k1 k2).2 h)
          have hf1 : (shO P o).f1 = o.f1 := sh_f1 P (fun h => hx (.inr h)) (fun h => hx (.inl h))
          by_cases h6 : (kindAt o.f0).f1 = 6
          · have hx6 := kind6_inv _ k1 k2 h6
            rw [h6] at k4 ⊢
            have k4 := inIv_iff.1 (show inIv o.f1 1 c.labels = true from k4)
            show inIv (shO P o).f1 1 d.labels = true
            rw [hf1, dlab]
            refine inIv_iff.2 ⟨k4.1, ?_⟩
            rcases hx6 with h | h
            · exact h19l h
            · have := hsl (by rw [named_m6 h]; omega)
              rwa [named_m6 h] at this
          · rw [show numOk (shO P o) d (kindAt o.f0).f1 = numOk o c (kindAt o.f0).f1 by
              unfold numOk
              rw [hf1, ddata, if_neg h5, if_neg h6, if_neg h5, if_neg h6]]
            exact k4
      · rw [sh_f0, sh_f2]
        by_cases e : o.f0 = 30
        · rw [if_neg (by rw [e]; decide), if_neg (by rw [e]; decide), if_pos e] at k5 ⊢
          have k5 := inIv_iff.1 k5
          rw [dlab]
          refine inIv_iff.2 ⟨k5.1, ?_⟩
          have := hsl (by rw [named_30 e]; omega)
          rwa [named_30 e] at this
        · rw [if_neg e] at k5 ⊢; exact k5
    · have h := hc.areas
      unfold areasB at h ⊢
      rw [show d.data.all areaB = c.data.all areaB by
        show (c.data.map cpR).all areaB = _
        rw [List.all_map]; rfl]
      rw [(and2 h).1]; rfl
    · rw [e3, dops]
      have := (names_iff l' hE' z'.1 z'.2.1 l'.length 0 (by omega) (by omega)).2 fun j _ hj hnj => by
        obtain ⟨k, m⟩ := hnm hj hnj
        obtain ⟨q1, q2⟩ := zP' k (by omega) m.lt m.f0
        rw [m.f1] at q1 q2
        have := hk0 m
        rw [q1, q2, m.pc]
        exact ⟨rfl, by show ((k : Nat) : Int) ≠ 0; omega⟩
      rw [List.drop_zero] at this
      exact this
  refine ⟨?_, ?_, coded_iff.2 hcd, ?_⟩
  · refine toD_fine hf.n ?_ (by show ([] : List D).length ≤ _; simp) (by show (c.data.map cpR).length ≤ _; rw [List.length_map]; exact hf.d) fun x hx => ?_
    · show (woL P c.ops 0).length ≤ _
      have := hf.o
      rw [hl']; omega
    · obtain ⟨x', g1, rfl⟩ := List.mem_map.1 (show x ∈ c.data.map cpR from hx)
      exact hf.w x' g1
  · have h := hv.small
    unfold largeB at h ⊢
    simp only [Bool.or_eq_false_iff, decide_eq_false_iff_not] at h ⊢
    obtain ⟨⟨⟨⟨g1, g2⟩, g3⟩, g4⟩, g5⟩ := h
    refine ⟨⟨⟨⟨?_, ?_⟩, ?_⟩, ?_⟩, ?_⟩
    · show ¬ ((woL P c.ops 0).length : Int) > 40000
      rw [hl']; omega
    · show ¬ ((c.data.map cpR).length : Int) > 2000
      rw [List.length_map]; exact g2
    · show ¬ c.procs - 1 > 200
      omega
    · show ¬ lastL (woL P c.ops 0) 0 > 20000
      rw [hl']; omega
    · show ¬ areasSize (c.data.map cpR) > 7800
      unfold areasSize at g5 ⊢
      rw [List.map_map]; exact g5
  · show stackGo (woL P c.ops 0) (placR d).1 0 0 = true
    rw [hl', e3]
    have hR := (stack_iff c.ops z.1 c.ops.length 0 (by omega)).1 (by have h := hv.stacked; unfold stackedB at h; rw [e1] at h; exact h)
    refine (stack_iff l' z'.1 l'.length 0 (by omega)).2 fun j _ hj => ?_
    have g := hR _ (Nat.zero_le _) (W.lt hj)
    have hd := W.dpt' j (by omega)
    have hdj : j ≠ a → dpt l' j = dpt c.ops (em a b j) := fun hne => by
      rw [hd]; unfold em
      by_cases e : j < a
      · rw [if_pos e, if_pos (show j ≤ a by omega)]
      · rw [if_neg e, if_neg (show ¬ j ≤ a by omega)]
    have h24 : j = a → (opAt c.ops (em a b j)).f0 = 24 := fun e => by
      rcases W.fin with g | g
      · omega
      · rw [show em a b j = a + b by unfold em; rw [if_neg (by omega)]; omega]; exact g
    unfold roundOk at g ⊢
    simp only [Bool.and_eq_true, decide_eq_true_eq] at g ⊢
    obtain ⟨⟨⟨⟨g1, g2⟩, g3⟩, g4⟩, g5⟩ := g
    have hA : afterI (opAt l' j) (dpt l' j) (kindAt (opAt l' j).f0) = afterI (opAt c.ops (em a b j)) (dpt c.ops (em a b j)) (kindAt (opAt c.ops (em a b j)).f0) := by
      rw [W.f0' hj, W.at_ j hj, sh_after]
      by_cases e : j = a
      · rw [after_24 _ _ (h24 e), after_24 _ _ (h24 e)]
      · rw [hdj e]
    refine ⟨⟨⟨⟨?_, by rw [hA]; exact g2⟩, by rw [hA]; exact g3⟩, ?_⟩, ?_⟩
    · rw [W.f0' hj, W.at_ j hj, sh_fits]
      by_cases e24 : (opAt c.ops (em a b j)).f0 = 24
      · exact fits_enter _ _ _ _ e24
      · have hne : j ≠ a := fun e => e24 (h24 e)
        rw [hdj hne]
        rcases Nat.eq_zero_or_pos j with e0 | e0
        · have em0 : em a b j = 0 := by unfold em; rw [if_pos (by omega)]; exact e0
          rw [em0] at g1 ⊢
          rw [decide_eq_false (show ¬ 0 < j by omega)]
          rw [decide_eq_false (show ¬ (0 : Nat) < 0 by omega)] at g1
          exact g1
        · have hs : em a b j = em a b (j - 1) + 1 := by
            rw [← em_next (show j - 1 + 1 ≠ a by omega)]; congr 1; omega
          have hf := W.f0' (i := j - 1) (by omega)
          rw [decide_eq_true e0, hf]
          have hs2 : em a b j - 1 = em a b (j - 1) := by omega
          rw [decide_eq_true (show 0 < em a b j by omega), hs2] at g1
          exact g1
    · unfold jumpOk at g4 ⊢
      have hname : namedI (opAt l' j) = namedI (opAt c.ops (em a b j)) := by rw [W.at_ j hj, sh_named]
      by_cases hnj : namedI (opAt l' j) > 0
      · obtain ⟨k, m⟩ := hnm hj hnj
        obtain ⟨q1, q2⟩ := zP' k (by omega) m.lt m.f0
        have m4 := m.at_
        rw [m.f1] at q1
        rw [q1, show ((.i (k : Int) : D).int).toNat = k from rfl, W.lead hord l'.length k (by omega) m.lt, W.f0' hj]
        rw [hname] at m4 hnj ⊢
        rw [m4] at g4
        exact g4
      · rw [decide_eq_false hnj]; simp
    · unfold fallOk at g5 ⊢
      by_cases he : j + 1 = a
      · have em0 : em a b j = j := by unfold em; rw [if_pos (by omega)]
        have hen := (order_at c.ops c.ops.length 0 (by omega) hord j (by omega) (by omega)).2 (.inr (by rw [he]; exact W.f0))
        rw [W.endsE hj he hen]; simp
      · rw [W.ends hj he, W.f0' hj]
        by_cases hlt : j + 1 < l'.length
        · rw [decide_eq_true hlt, W.lead hord l'.length (j + 1) (by omega) hlt, em_next he]
          have hl2 := W.lt hlt
          rw [em_next he] at hl2
          rw [decide_eq_true hl2] at g5
          exact g5
        · rw [decide_eq_false hlt]; simp
end Go.Pv

namespace Go.Pv
open Go.Proofs Go.Proofs.Ytkmcanknbdaliaa.Lx
set_option maxRecDepth 20000
set_option linter.unusedSimpArgs false
/-! ### what `without` gives -/
abbrev WoT := Int × D × D × CodeT × Int × Int
theorem wo_put (P : Int) (c v4 : D) (s : ByteArray) (d acc g : List D) (p q pr i : Int) (o : Op) (h : acc.length ≤ 1000000) (hs : Small o.f1) (κ2 κ0 : WoT → Option CodeT) :
    Gw06_without.p16019 P c v4 (s, d, acc, g, p, q, ()) pr i o κ2 κ0 = bif pr == P then κ2 (P, c, v4, (s, d, acc, g, p, q, ()), pr, i) else κ0 (P, c, v4, (s, d, acc ++ [shO P o], g, p, q, ()), pr, i) := by
  unfold Small at hs
  have put : ∀ (x : D) (κ : WoT → Option CodeT), Gw06_without.p64079 P c v4 (s, d, acc, g, p, q, ()) pr i x κ = κ (P, c, v4, (s, d, acc ++ [x], g, p, q, ()), pr, i) := fun x κ => by
    unfold Gw06_without.p64079
    rw [gd_pos (lim_pos (by simp; omega))]
  unfold Gw06_without.p16019
  rw [w64 _ (show -9223372036854775808 ≤ (o.cell 1).int - 1 ∧ (o.cell 1).int - 1 ≤ 9223372036854775807 by have : (o.cell 1).int = o.f1 := rfl; omega)]
  simp only [put]
  cases hpr : pr == P with
  | true => rfl
  | false =>
    simp only [cond_false]
    unfold shO
    simp only [D.f0, D.f1, D.f2]
    by_cases e1 : ((o.cell 0).int = 24 ∨ (o.cell 0).int = 11) ∧ (o.cell 1).int > P
    · have : ((((o.cell 0).int == 24) || ((o.cell 0).int == 11)) && decide ((o.cell 1).int > P)) = true := by
        simp only [Bool.and_eq_true, Bool.or_eq_true, beq_iff_eq, decide_eq_true_eq]; exact e1
      rw [this, cond_true, if_pos e1]
    · have : ((((o.cell 0).int == 24) || ((o.cell 0).int == 11)) && decide ((o.cell 1).int > P)) = false := by
        rw [← Bool.not_eq_true]
        simp only [Bool.and_eq_true, Bool.or_eq_true, beq_iff_eq, decide_eq_true_eq]; exact e1
      rw [this, cond_false, if_neg e1]
      by_cases e2 : (o.cell 0).int = 11 ∧ (o.cell 1).int = P
      · have : (((o.cell 0).int == 11) && ((o.cell 1).int == P)) = true := by
          simp only [Bool.and_eq_true, beq_iff_eq]; exact e2
        rw [this, cond_true, if_pos e2]
      · have : (((o.cell 0).int == 11) && ((o.cell 1).int == P)) = false := by
          rw [← Bool.not_eq_true]
          simp only [Bool.and_eq_true, beq_iff_eq]; exact e2
        rw [this, cond_false, if_neg e2]
theorem wo_l (P : Int) (c v4 : D) (hl : c.ops.length ≤ 1000000) (hw : ∀ x ∈ c.ops, Small x.f1) (s : ByteArray) (d g : List D) (p q : Int) (κ : D × CodeT → Option CodeT) : ∀ (n i k : Nat) (acc : List D) (pr : Int), c.ops.length - i = n → i ≤ c.ops.length → n < k → acc.length ≤ i →
    Gw06_without.l250 k P c v4 (s, d, acc, g, p, q, ()) pr (i : Int) κ = κ (v4, (s, d, acc ++ woL P (c.ops.drop i) pr, g, p, q, ()))
  | 0, i, k, acc, pr, hn, hi, hk, ha => by
    obtain ⟨k, rfl⟩ : ∃ m, k = m + 1 := ⟨k - 1, by omega⟩
    obtain rfl : i = c.ops.length := by omega
    have e : ((c.cell 2).list.length : Int) = (c.ops.length : Int) := rfl
    simp only [Gw06_without.l250]
    rw [e, decide_eq_false (by omega), cond_false, List.drop_length, woL, List.append_nil]
  | n + 1, i, k, acc, pr, hn, hi, hk, ha => by
    obtain ⟨k, rfl⟩ : ∃ m, k = m + 1 := ⟨k - 1, by omega⟩
    have hlt : i < c.ops.length := by omega
    have hm := hw _ (rd_mem hlt)
    have e0 : (c.cell 2).list.length = c.ops.length := rfl
    have ih := fun acc pr => wo_l P c v4 hl hw s d g p q κ n (i + 1) k acc pr (by omega) (by omega) (by omega)
    have g0 : inB (i : Int) (c.cell 2).list.length = true := inB_pos (by omega)
    rw [drop_rd c.ops i hlt, woL]
    simp only [Gw06_without.l250, toNat_nat]
    rw [decide_eq_true (show (i : Int) < ((c.cell 2).list.length : Int) by omega), cond_true, gd_pos g0]
    have key : ∀ pr' : Int, Gw06_without.p16019 P c v4 (s, d, acc, g, p, q, ()) pr' (i : Int) (rd (c.cell 2).list i) (fun y => Gw06_without.l250 k y.1 y.2.1 y.2.2.1 (y.2.2.2.1.1, y.2.2.2.1.2.1, y.2.2.2.1.2.2.1, y.2.2.2.1.2.2.2.1, y.2.2.2.1.2.2.2.2.1, y.2.2.2.1.2.2.2.2.2.1, ()) y.2.2.2.2.1 (IntKind.i64.wrap (y.2.2.2.2.2 + 1)) κ) (fun y => Gw06_without.l250 k y.1 y.2.1 y.2.2.1 (y.2.2.2.1.1, y.2.2.2.1.2.1, y.2.2.2.1.2.2.1, y.2.2.2.1.2.2.2.1, y.2.2.2.1.2.2.2.2.1, y.2.2.2.1.2.2.2.2.2.1, ()) y.2.2.2.2.1 (IntKind.i64.wrap (y.2.2.2.2.2 + 1)) κ) =
        κ (v4, (s, d, acc ++ (if pr' = P then woL P (c.ops.drop (i + 1)) pr' else shO P (rd c.ops i) :: woL P (c.ops.drop (i + 1)) pr'), g, p, q, ())) := fun pr' => by
      rw [wo_put P c v4 s d acc g p q pr' i _ (by omega) hm]
      simp only [w_succ i (show (i : Int) + 1 ≤ 9223372036854775807 by omega)]
      by_cases e : pr' = P
      · rw [beq_iff_eq.2 e, cond_true, if_pos e]
        exact ih acc pr' (by omega)
      · rw [beq_eq_false_iff_ne.2 e, cond_false, if_neg e]
        refine (ih (acc ++ [shO P (rd c.ops i)]) pr' (by simp; omega)).trans ?_
        simp
    by_cases e : (rd c.ops i).f0 = 24
    · have e' : ((rd (c.cell 2).list i).cell 0).int = 24 := e
      rw [if_pos e, beq_iff_eq.2 e', cond_true]
      exact key _
    · have e' : ¬ ((rd (c.cell 2).list i).cell 0).int = 24 := e
      rw [if_neg e, beq_eq_false_iff_ne.2 e', cond_false]
      exact key _
theorem wolab_l (v4 : D) (s : ByteArray) (d o g : List D) (p : Int) (ho : o.length ≤ 1000000) (κ : D × CodeT → Option CodeT) : ∀ (n i k : Nat) (q : Int), o.length - i = n → i ≤ o.length → n < k →
    Gw06_without.l4090 k v4 (s, d, o, g, p, q, ()) (i : Int) κ = κ (v4, (s, d, o, g, p, lastL (o.drop i) q, ()))
  | 0, i, k, q, hn, hi, hk => by
    obtain ⟨k, rfl⟩ : ∃ m, k = m + 1 := ⟨k - 1, by omega⟩
    obtain rfl : i = o.length := by omega
    simp only [Gw06_without.l4090]
    rw [decide_eq_false (by omega), cond_false, List.drop_length, lastL]
  | n + 1, i, k, q, hn, hi, hk => by
    obtain ⟨k, rfl⟩ : ∃ m, k = m + 1 := ⟨k - 1, by omega⟩
    have hlt : i < o.length := by omega
    have ih := fun q => wolab_l v4 s d o g p ho κ n (i + 1) k q (by omega) (by omega) (by omega)
    have g0 : inB (i : Int) o.length = true := inB_pos (by omega)
    have g1 : Nat.blt i o.length = true := blt_pos hlt
    rw [drop_rd o i hlt, lastL]
    simp only [Gw06_without.l4090, toNat_nat]
    rw [decide_eq_true (show (i : Int) < (o.length : Int) by omega), cond_true, gd_pos g0, gd_pos g1, w_succ i (by omega)]
    by_cases e : (rd o i).f0 = 19
    · have e' : ((rd o i).cell 0).int = 19 := e
      rw [if_pos e, beq_iff_eq.2 e', cond_true, gd_pos g0, gd_pos g1]
      exact ih _
    · have e' : ¬ ((rd o i).cell 0).int = 19 := e
      rw [if_neg e, beq_eq_false_iff_ne.2 e', cond_false]
      exact ih _
theorem woL_len (P : Int) : ∀ (l : List Op) (q : Int), (woL P l q).length ≤ l.length
  | [], q => Nat.le_refl _
  | o :: l, q => by
    rw [woL]
    generalize (if o.f0 = 24 then o.f1 else q) = q'
    have := woL_len P l q'
    split <;> simp only [List.length_cons] <;> omega
theorem without_f (c : D) (hv : Valid c) (P : Int) : Gw06_without.f c P = some (woD c P) := by
  have hf := hv.fine
  have hlim := hv.lim
  have hp := valid_procs hv
  have hs := woL_len P c.ops 0
  have ho := hf.o
  unfold Gw06_without.f
  rw [copy_f c hf, Option.bind_some]
  have q1 := fun κ => wo_l P c (.r [.s ByteArray.empty, .l [], .l [], .l [], .i 0, .i 0]) hf.o (fun x hx => (small_ops hv x hx).1) c.s0 (c.data.map cpR) c.gl c.procs c.labels κ c.ops.length 0 NN [] 0 (by omega) (by omega) (by have := le_NN; omega) (by simp)
  rw [show ((0 : Nat) : Int) = 0 from rfl, List.drop_zero, List.nil_append] at q1
  refine (q1 _).trans ?_
  have q2 := fun κ => wolab_l (.r [.s ByteArray.empty, .l [], .l [], .l [], .i 0, .i 0]) c.s0 (c.data.map cpR) (woL P c.ops 0) [] (c.procs - 1) (by omega) κ (woL P c.ops 0).length 0 NN 0 (by omega) (by omega) (by have := le_NN; omega)
  rw [show ((0 : Nat) : Int) = 0 from rfl, List.drop_zero] at q2
  have hw : IntKind.i64.wrap (c.procs - 1) = c.procs - 1 := w64 _ (by omega)
  show Gw06_without.l4090 NN (.r [.s ByteArray.empty, .l [], .l [], .l [], .i 0, .i 0]) (c.s0, c.data.map cpR, woL P c.ops 0, [], IntKind.i64.wrap (c.procs - 1), 0, ()) 0 _ = _
  rw [hw]
  exact (q2 _).trans rfl
/-! ### depths -/
def wantL (P : Int) : List Op → List D → Int → List D
  | o :: l, d :: ds, q => if (if o.f0 = 24 then o.f1 else q) = P then wantL P l ds (if o.f0 = 24 then o.f1 else q) else .i d.int :: wantL P l ds (if o.f0 = 24 then o.f1 else q)
  | _, _, _ => []
theorem want_depths (P : Int) : ∀ (l : List Op) (d d' q : Int), (q ≠ P → d = d') → wantL P l (depthsL l d) q = depthsL (woL P l q) d'
  | [], d, d', q, h => rfl
  | o :: l, d, d', q, h => by
    rw [depthsL, wantL, woL]
    by_cases e : (if o.f0 = 24 then o.f1 else q) = P
    · rw [if_pos e, if_pos e]
      exact want_depths P l _ d' _ fun h' => absurd e h'
    · rw [if_neg e, if_neg e, depthsL, sh_f0, sh_after]
      by_cases e24 : o.f0 = 24
      · rw [after_24 _ _ e24, after_24 _ _ e24]
        have h1 : ahead o d = 0 := by unfold ahead; rw [if_pos e24]
        have h2 : ahead (shO P o) d' = 0 := by unfold ahead; rw [if_pos ((sh_f0 P o).trans e24)]
        rw [h1, h2, want_depths P l _ (2 + o.f2) _ fun _ => rfl]; rfl
      · have hq : q ≠ P := by rw [if_neg e24] at e; exact e
        rw [← h hq]
        have h2 : ahead (shO P o) d = ahead o d := by unfold ahead; rw [sh_f0]
        rw [h2, want_depths P l _ (afterI o d (kindAt o.f0)) _ fun _ => rfl]; rfl
theorem want_l (c : D) (hl : c.ops.length ≤ 1000000) (ds : List D) (hd : ds.length = c.ops.length) (P : Int) (m r q : List D) (κ : D × List D × Int × List D × List D × List D × List D → Option Bool) : ∀ (n i k : Nat) (acc : List D) (pr : Int), c.ops.length - i = n → i ≤ c.ops.length → n < k → acc.length ≤ i →
    Gw06_OcodeApart.l32762 k c ds P m r q acc pr (i : Int) κ = κ (c, ds, P, m, r, q, acc ++ wantL P (c.ops.drop i) (ds.drop i) pr)
  | 0, i, k, acc, pr, hn, hi, hk, ha => by
    obtain ⟨k, rfl⟩ : ∃ m, k = m + 1 := ⟨k - 1, by omega⟩
    obtain rfl : i = c.ops.length := by omega
    have e : ((c.cell 2).list.length : Int) = (c.ops.length : Int) := rfl
    simp only [Gw06_OcodeApart.l32762]
    rw [e, decide_eq_false (show ¬ ((c.ops.length : Nat) : Int) < (c.ops.length : Int) by omega), Bool.false_and, cond_false, List.drop_length, wantL, List.append_nil]
    intro o l d ds h; cases h
  | n + 1, i, k, acc, pr, hn, hi, hk, ha => by
    obtain ⟨k, rfl⟩ : ∃ m, k = m + 1 := ⟨k - 1, by omega⟩
    have hlt : i < c.ops.length := by omega
    have e0 : (c.cell 2).list.length = c.ops.length := rfl
    have ih := fun acc pr => want_l c hl ds hd P m r q κ n (i + 1) k acc pr (by omega) (by omega) (by omega)
    have g0 : inB (i : Int) (c.cell 2).list.length = true := inB_pos (by omega)
    have g1 : inB (i : Int) ds.length = true := inB_pos (by omega)
    have g2 : Nat.blt i ds.length = true := blt_pos (by omega)
    rw [drop_rd c.ops i hlt, drop_rd ds i (by omega), wantL]
    simp only [Gw06_OcodeApart.l32762, toNat_nat]
    rw [decide_eq_true (show (i : Int) < ((c.cell 2).list.length : Int) by omega), decide_eq_true (show (i : Int) < (ds.length : Int) by omega), Bool.true_and, cond_true, gd_pos g0]
    have key : ∀ pr' : Int, Gw06_OcodeApart.p1048393 c ds P m r q acc pr' (i : Int) (fun y => Gw06_OcodeApart.l32762 k y.1 y.2.1 y.2.2.1 y.2.2.2.1 y.2.2.2.2.1 y.2.2.2.2.2.1 y.2.2.2.2.2.2.1 y.2.2.2.2.2.2.2.1 (IntKind.i64.wrap (y.2.2.2.2.2.2.2.2 + 1)) κ) =
        κ (c, ds, P, m, r, q, acc ++ (if pr' = P then wantL P (c.ops.drop (i + 1)) (ds.drop (i + 1)) pr' else .i (rd ds i).int :: wantL P (c.ops.drop (i + 1)) (ds.drop (i + 1)) pr')) := fun pr' => by
      unfold Gw06_OcodeApart.p1048393
      simp only [toNat_nat, w_succ i (show (i : Int) + 1 ≤ 9223372036854775807 by omega)]
      by_cases e : pr' = P
      · rw [e, bne_self_eq_false, cond_false, if_pos rfl]
        exact ih acc P (by omega)
      · rw [bne_iff_ne.2 e, cond_true, if_neg e, gd_pos g1, gd_pos g2, gd_pos (lim_pos (by simp; omega))]
        refine (ih (acc ++ [.i (rd ds i).int]) pr' (by simp; omega)).trans ?_
        simp
    by_cases e : (rd c.ops i).f0 = 24
    · have e' : ((rd (c.cell 2).list i).cell 0).int = 24 := e
      rw [if_pos e, beq_iff_eq.2 e', cond_true, gd_pos g0]
      exact key _
    · have e' : ¬ ((rd (c.cell 2).list i).cell 0).int = 24 := e
      rw [if_neg e, beq_eq_false_iff_ne.2 e', cond_false]
      exact key _
/-! ### rooms -/
theorem rd_erase : ∀ (xs : List D) (k j : Nat), rd (xs.eraseIdx k) j = if j < k then rd xs j else rd xs (j + 1)
  | [], k, j => by simp [rd]
  | x :: xs, 0, j => by rw [if_neg (by omega)]; rfl
  | x :: xs, k + 1, 0 => by rw [if_pos (by omega)]; rfl
  | x :: xs, k + 1, j + 1 => by
    have := rd_erase xs k j
    simp only [List.eraseIdx_cons_succ, rd]
    rw [this]
    by_cases h : j < k
    · rw [if_pos h, if_pos (show j + 1 < k + 1 by omega)]
    · rw [if_neg h, if_neg (show ¬ j + 1 < k + 1 by omega)]
theorem erase_set : ∀ (xs : List D) (k i : Nat) (v : D), (xs.set i v).eraseIdx k = if i = k then xs.eraseIdx k else (xs.eraseIdx k).set (if i < k then i else i - 1) v
  | [], k, i, v => by simp
  | x :: xs, 0, 0, v => by simp
  | x :: xs, 0, i + 1, v => by simp
  | x :: xs, k + 1, 0, v => by simp
  | x :: xs, k + 1, i + 1, v => by
    have := erase_set xs k i v
    simp only [List.set_cons_succ, List.eraseIdx_cons_succ]
    rw [this]
    by_cases h : i = k
    · rw [if_pos h, if_pos (show i + 1 = k + 1 by omega)]
    · rw [if_neg h, if_neg (show ¬ i + 1 = k + 1 by omega)]
      by_cases h2 : i < k
      · rw [if_pos h2, if_pos (show i + 1 < k + 1 by omega), List.set_cons_succ]
      · rw [if_neg h2, if_neg (show ¬ i + 1 < k + 1 by omega)]
        obtain ⟨m, rfl⟩ : ∃ m, i = m + 1 := ⟨i - 1, by omega⟩
        simp
def spP (P q : Int) : Int := if q > P then q - 1 else q
theorem er_set (P : Int) (hP : 1 ≤ P) (q : Int) (hq : 1 ≤ q) (out : List D) (v : D) : (out.set (q - 1).toNat v).eraseIdx (P - 1).toNat = if q = P then out.eraseIdx (P - 1).toNat else (out.eraseIdx (P - 1).toNat).set (spP P q - 1).toNat v := by
  rw [erase_set]
  by_cases h : q = P
  · rw [if_pos h, if_pos (by omega)]
  · rw [if_neg h, if_neg (by omega)]
    congr 1
    unfold spP
    by_cases h2 : q > P
    · rw [if_pos h2, if_neg (by omega)]; omega
    · rw [if_neg h2, if_pos (by omega)]
theorem er_ri (P : Int) (hP : 1 ≤ P) (q : Int) (hq : 1 ≤ q) (hn : q ≠ P) (out : List D) : ri (out.eraseIdx (P - 1).toNat) (spP P q - 1) = ri out (q - 1) := by
  unfold ri spP
  rw [rd_erase]
  by_cases h2 : q > P
  · rw [if_pos h2, if_neg (by omega), show (q - 1 - 1).toNat + 1 = (q - 1).toNat by omega]
  · rw [if_neg h2, if_pos (by omega)]
theorem room_wo (P : Int) (hP : 1 ≤ P) : ∀ (l : List Op) (d d' q q' : Int) (out : List D), (q ≠ P → d = d' ∧ q' = spP P q) → (1 ≤ q ∨ l = [] ∨ (opAt l 0).f0 = 24) → (∀ o ∈ l, o.f0 = 24 → 1 ≤ o.f1) →
    roomL (woL P l q) (depthsL (woL P l q) d') q' (out.eraseIdx (P - 1).toNat) = (roomL l (depthsL l d) q out).eraseIdx (P - 1).toNat
  | [], d, d', q, q', out, h, hq, hl => rfl
  | o :: l, d, d', q, q', out, h, hq, hl => by
    have hl' : ∀ o ∈ l, o.f0 = 24 → 1 ≤ o.f1 := fun o ho => hl o (List.mem_cons_of_mem _ ho)
    have ho := hl o (List.mem_cons_self ..)
    rw [depthsL, roomL, woL]
    have hr : roomP o q = if o.f0 = 24 then o.f1 else q := rfl
    have h1 : 1 ≤ roomP o q := by
      rw [hr]
      by_cases e : o.f0 = 24
      · rw [if_pos e]; exact ho e
      · rw [if_neg e]
        rcases hq with g | g | g
        · exact g
        · cases g
        · exact absurd g e
    rw [← hr]
    by_cases e : roomP o q = P
    · rw [if_pos e]
      have r1 : ∀ x, (room1 o x (roomP o q) out).eraseIdx (P - 1).toNat = out.eraseIdx (P - 1).toNat := fun x => by
        unfold room1
        by_cases e24 : o.f0 = 24
        · rw [if_pos e24]
        · rw [if_neg e24, er_set P hP _ h1, if_pos e]
      have r2 : ∀ x y, (room2 o x (roomP o q) y).eraseIdx (P - 1).toNat = y.eraseIdx (P - 1).toNat := fun x y => by
        unfold room2
        rw [er_set P hP _ h1, if_pos e]
      have ih := room_wo P hP l (afterI o d (kindAt o.f0)) d' (roomP o q) q' (room2 o (D.i (ahead o d)).int (roomP o q) (room1 o (D.i (ahead o d)).int (roomP o q) out)) (fun h' => absurd e h') (.inl h1) hl'
      rw [r2, r1] at ih
      exact ih
    · rw [if_neg e, depthsL, roomL]
      have hd : ahead (shO P o) d' = ahead o d ∧ afterI (shO P o) d' (kindAt (shO P o).f0) = afterI o d (kindAt o.f0) ∧ roomP (shO P o) q' = spP P (roomP o q) := by
        by_cases e24 : o.f0 = 24
        · have e24' : (shO P o).f0 = 24 := (sh_f0 P o).trans e24
          refine ⟨by unfold ahead; rw [if_pos e24, if_pos e24'], by rw [after_24 _ _ e24, after_24 _ _ e24', sh_f2], ?_⟩
          unfold roomP spP
          rw [if_pos e24', if_pos e24, sh_f1e P e24]
        · have hq2 : q ≠ P := by rw [hr, if_neg e24] at e; exact e
          obtain ⟨rfl, rfl⟩ := h hq2
          refine ⟨by unfold ahead; rw [sh_f0], by rw [sh_f0, sh_after], ?_⟩
          unfold roomP
          rw [sh_f0, if_neg e24, if_neg e24]
      obtain ⟨d1, d2, d3⟩ := hd
      rw [d1, d2, d3]
      have r1 : ∀ x, room1 (shO P o) x (spP P (roomP o q)) (out.eraseIdx (P - 1).toNat) = (room1 o x (roomP o q) out).eraseIdx (P - 1).toNat := fun x => by
        unfold room1
        rw [sh_f0]
        by_cases e24 : o.f0 = 24
        · rw [if_pos e24, if_pos e24]
        · rw [if_neg e24, if_neg e24, er_set P hP _ h1, if_neg e, er_ri P hP _ h1 e]
      have r2 : ∀ y, room2 (shO P o) (ahead o d) (spP P (roomP o q)) (y.eraseIdx (P - 1).toNat) = (room2 o (ahead o d) (roomP o q) y).eraseIdx (P - 1).toNat := fun y => by
        unfold room2
        rw [sh_f0, sh_after, er_set P hP _ h1, if_neg e, er_ri P hP _ h1 e]
      show roomL _ _ _ (room2 (shO P o) (ahead o d) (spP P (roomP o q)) (room1 (shO P o) (ahead o d) (spP P (roomP o q)) (out.eraseIdx (P - 1).toNat))) = (roomL l _ _ (room2 o (ahead o d) (roomP o q) (room1 o (ahead o d) (roomP o q) out))).eraseIdx _
      rw [r1, r2]
      exact room_wo P hP l _ _ _ _ _ (fun _ => ⟨rfl, rfl⟩) (.inl h1) hl'
/-! ### the law -/
theorem apart_pure (c : D) (hw : Wide c) (k : Int) : Gw06_OcodeApart.f c k = some true := by
  obtain ⟨b, hb, hf⟩ := heavy_f c hw
  unfold Gw06_OcodeApart.f
  rw [hb, Option.bind_some]
  cases b with
  | true => rw [Bool.true_or, cond_true, awake_f]; rfl
  | false =>
    obtain ⟨hf, -⟩ := hf rfl
    rw [Bool.false_or]
    by_cases hk : k < 0
    · rw [decide_eq_true hk, cond_true, awake_f]; rfl
    rw [decide_eq_false hk, cond_false, depths_f c hf, Option.bind_some]
    have hpr : (c.cell 4).int = c.procs := rfl
    by_cases g : checkI c = 0 ∧ 2 ≤ c.procs
    · obtain ⟨g, h2⟩ := g
      have hv := check_ok hf g
      have hlim := hv.lim
      have e1 : depthsR c = (depthsL c.ops 0, 0) := by unfold depthsR; rw [if_pos g]
      have e2 : roomR c = (roomL c.ops (depthsL c.ops 0) 0 (List.replicate c.procs.toNat (.i 0)), 0) := by unfold roomR; rw [if_pos g]
      have hmod : k.tmod c.procs = k % c.procs := Int.tmod_eq_emod_of_nonneg (by omega)
      have hm1 := Int.emod_nonneg k (show c.procs ≠ 0 by omega)
      have hm2 := Int.emod_lt_of_pos k (show 0 < c.procs by omega)
      have hwr : IntKind.i64.wrap (k % c.procs + 1) = k % c.procs + 1 := w64 _ (by omega)
      simp only [hpr, hmod, hwr]
      generalize hP : k % c.procs + 1 = P
      have p1 : 1 ≤ P := by omega
      have p2 : P ≤ c.procs := by omega
      have hv2 := wo_valid hv p1 p2 h2
      have g2 := check_zero hv2
      have q1 := depths_f (toD (woD c P)) hv2.fine
      have q2 := room_f (toD (woD c P)) hv2.fine
      have e3 : depthsR (toD (woD c P)) = (depthsL (woL P c.ops 0) 0, 0) := by unfold depthsR; rw [if_pos g2]; rfl
      have e4 : roomR (toD (woD c P)) = (roomL (woL P c.ops 0) (depthsL (woL P c.ops 0) 0) 0 (List.replicate (c.procs - 1).toNat (.i 0)), 0) := by unfold roomR; rw [if_pos g2]; rfl
      rw [e3] at q1
      rw [e4] at q2
      simp only [toD] at q1 q2
      rw [e1]
      simp only [bne_self_eq_false, Bool.false_or]
      rw [decide_eq_false (show ¬ c.procs < 2 by omega), cond_false, gd_pos (by simp; omega)]
      simp only [without_f c hv P, Option.bind_some, q1, room_f c hf, e2, q2, bne_self_eq_false, Bool.or_self, cond_false]
      have q3 := fun m r q κ => want_l c hf.o (depthsL c.ops 0) (depthsL_len _ _) P m r q κ c.ops.length 0 NN [] 0 (by omega) (by omega) (by have := le_NN; have := hf.o; omega) (by simp)
      rw [show ((0 : Nat) : Int) = 0 from rfl, List.drop_zero, List.drop_zero, List.nil_append] at q3
      rw [q3]
      have hR : (roomL c.ops (depthsL c.ops 0) 0 (List.replicate c.procs.toNat (.i 0))).length = c.procs.toNat := by rw [roomL_len, List.length_replicate]
      have hD : (depthsL c.ops 0).length = c.ops.length := depthsL_len _ _
      have hent : ∀ o ∈ c.ops, o.f0 = 24 → 1 ≤ o.f1 := fun o ho h => (enter_ok (List.all_eq_true.1 hv.st.ops o ho) h).1
      have hfst : (1 : Int) ≤ 0 ∨ c.ops = [] ∨ (opAt c.ops 0).f0 = 24 := by
        right
        cases hc : c.ops with
        | nil => exact .inl rfl
        | cons o l =>
          right
          rw [← hc]
          exact first_enter hv.st.ord (by rw [hc]; simp)
      have hroom := room_wo P p1 c.ops 0 0 0 0 (List.replicate c.procs.toNat (.i 0)) (fun _ => ⟨rfl, by unfold spP; rw [if_neg (by omega)]⟩) hfst hent
      have hrep : (List.replicate c.procs.toNat (D.i 0)).eraseIdx (P - 1).toNat = List.replicate (c.procs - 1).toNat (.i 0) := by
        rw [List.eraseIdx_replicate, if_pos (by omega)]
        congr 1; omega
      rw [hrep, List.eraseIdx_eq_take_drop_succ] at hroom
      have hwant := want_depths P c.ops 0 0 0 (fun _ => rfl)
      generalize roomL c.ops (depthsL c.ops 0) 0 (List.replicate c.procs.toNat (.i 0)) = R at *
      have hops : (c.cell 2).list.length = c.ops.length := rfl
      have hw1 : IntKind.i64.wrap (P - 1) = P - 1 := w64 _ (by omega)
      have hx : (P - 1).toNat + 1 = P.toNat := by omega
      rw [hx] at hroom
      rw [hwant]
      have hdl : (depthsL (woL P c.ops 0) 0).length ≤ 1000000 := by
        rw [depthsL_len]
        have := woL_len P c.ops 0
        have := hf.o
        omega
      have hrl : (R.take (P - 1).toNat ++ R.drop P.toNat).length ≤ 1000000 := by
        simp only [List.length_append, List.length_take, List.length_drop]; omega
      have hz1 : ((((depthsL c.ops 0).length : Int) != ((c.cell 2).list.length : Int)) || ((R.length : Int) != c.procs)) = false := by
        rw [hD, hops, hR]
        have : ((c.procs.toNat : Nat) : Int) = c.procs := by omega
        rw [this]; simp
      simp only [hz1, cond_false, Gw06_OcodeApart.p32766, eqints_self _ hdl, Option.bind_some, hw1, Bool.not_true, Bool.false_or, cond_true]
      have g3 : (decide (0 ≤ P - 1) && decide (P - 1 ≤ (R.length : Int))) = true := by
        rw [decide_eq_true (by omega), decide_eq_true (by omega)]; rfl
      have g4 : (decide (0 ≤ P) && decide (P ≤ (R.length : Int))) = true := by
        rw [decide_eq_true (by omega), decide_eq_true (by omega)]; rfl
      rw [gd_pos g3, gd_pos (lim_pos (by simp; omega)), gd_pos g4, gd_pos (lim_pos (by simp; omega))]
      rw [List.drop_zero, List.take_length, hroom, eqints_self _ hrl]
      simp only [Option.bind_some, Bool.and_self, cond_true, awake_f, Bool.true_and]
    · have e1 : (((depthsR c).2 != 0) || decide ((c.cell 4).int < 2)) = true := by
        rw [Bool.or_eq_true, decide_eq_true_eq, bne_iff_ne]
        by_cases g1 : checkI c = 0
        · right
          have : ¬ 2 ≤ c.procs := fun h => g ⟨g1, h⟩
          rw [hpr]; omega
        · left
          unfold depthsR
          rw [if_neg g1]; exact g1
      rw [e1, cond_true, awake_f]; rfl
end Go.Pv

namespace Go.Pv
open Go.Proofs
set_option maxRecDepth 20000
set_option linter.unusedSimpArgs false
/-! ### the word of a number -/
def nrm (b v : Int) : Int := if b = 16 then (v + 32768) % 65536 - 32768 else if b = 24 then (v + 8388608) % 16777216 - 8388608 else (v + 2147483648) % 4294967296 - 2147483648
def okBits (b : Int) : Prop := b = 16 ∨ b = 24 ∨ b = 32
theorem wrap_def (n : Int) : IntKind.i64.wrap n = (n + 9223372036854775808) % 18446744073709551616 - 9223372036854775808 := by
  simp only [IntKind.wrap, IntKind.signed, IntKind.bits]
  simp
  omega
theorem norm_f (v b : Int) (hb : okBits b) : Gword_norm.f v b = some (nrm b v) := by
  unfold Gword_norm.f
  rw [w64 (64 - b) (by rcases hb with rfl | rfl | rfl <;> omega)]
  rw [gd_pos (decide_eq_true (by rcases hb with rfl | rfl | rfl <;> omega)), gd_pos (decide_eq_true (by rcases hb with rfl | rfl | rfl <;> omega))]
  congr 1
  rcases hb with rfl | rfl | rfl
  · rw [show (min ((64 : Int) - 16).toNat (IntKind.i64).bits) = 48 from rfl, show ((2 : Int) ^ 48) = 281474976710656 from rfl, Int.fdiv_eq_ediv_of_nonneg _ (by decide), wrap_def]
    unfold nrm; simp; omega
  · rw [show (min ((64 : Int) - 24).toNat (IntKind.i64).bits) = 40 from rfl, show ((2 : Int) ^ 40) = 1099511627776 from rfl, Int.fdiv_eq_ediv_of_nonneg _ (by decide), wrap_def]
    unfold nrm; simp; omega
  · rw [show (min ((64 : Int) - 32).toNat (IntKind.i64).bits) = 32 from rfl, show ((2 : Int) ^ 32) = 4294967296 from rfl, Int.fdiv_eq_ediv_of_nonneg _ (by decide), wrap_def]
    unfold nrm; simp; omega
theorem power_l (b : Nat) (hb : b ≤ 32) (κ : Int → Option Int) : ∀ (n i k : Nat), b - i = n → i ≤ b → n < k → Gr01_power.l58 k (b : Int) ((2 : Int) ^ i) (i : Int) κ = κ ((2 : Int) ^ b)
  | 0, i, k, hn, hi, hk => by
    obtain ⟨k, rfl⟩ : ∃ m, k = m + 1 := ⟨k - 1, by omega⟩
    obtain rfl : i = b := by omega
    simp only [Gr01_power.l58]
    rw [decide_eq_false (by omega), cond_false]
  | n + 1, i, k, hn, hi, hk => by
    obtain ⟨k, rfl⟩ : ∃ m, k = m + 1 := ⟨k - 1, by omega⟩
    have h1 : (2 : Int) ^ i ≤ 2 ^ 32 := by
      have := Nat.pow_le_pow_right (n := 2) (by decide) (show i ≤ 32 by omega)
      have h2 : ((2 ^ i : Nat) : Int) = (2 : Int) ^ i := by simp
      omega
    have h0 : (0 : Int) ≤ 2 ^ i := Int.pow_nonneg (by decide)
    have h3 : (2 : Int) ^ 32 = 4294967296 := rfl
    simp only [Gr01_power.l58]
    rw [decide_eq_true (show (i : Int) < (b : Int) by omega), cond_true, w_succ i (by omega), w64 _ (by omega)]
    have := power_l b hb κ n (i + 1) k (by omega) (by omega) (by omega)
    rw [show (2 : Int) ^ (i + 1) = 2 ^ i * 2 from Int.pow_succ _ _] at this
    exact this
theorem power_f (b : Nat) (hb : b ≤ 32) : Gr01_power.f (b : Int) = some ((2 : Int) ^ b) := by
  unfold Gr01_power.f
  exact power_l b hb _ b 0 NN (by omega) (by omega) (by have := le_NN; omega)
theorem tmod_cases (v p : Int) (hp : 0 < p) : (0 ≤ v ∧ v.tmod p = v % p) ∨ (v < 0 ∧ v.tmod p = -((-v) % p)) := by
  by_cases h : 0 ≤ v
  · exact .inl ⟨h, Int.tmod_eq_emod_of_nonneg h⟩
  · right
    refine ⟨by omega, ?_⟩
    have h1 : (-v).tmod p = (-v) % p := Int.tmod_eq_emod_of_nonneg (by omega)
    rw [Int.neg_tmod] at h1
    omega
theorem rnorm_f (v b : Int) (hb : okBits b) : Gr01_norm.f v b = some (nrm b v) := by
  unfold Gr01_norm.f Gr01_norm.p31
  rcases hb with rfl | rfl | rfl
  · have hpow : Gr01_power.f 16 = some 65536 := power_f 16 (by decide)
    have hn : nrm 16 v = (v + 32768) % 65536 - 32768 := by simp [nrm]
    rw [hpow, Option.bind_some, hn]
    rw [gd_pos (by decide), gd_pos (by decide), show (IntKind.i64.wrap ((IntKind.i64.wrap (0 - 65536)).tdiv 2)) = -32768 by decide, show (IntKind.i64.wrap ((65536 : Int).tdiv 2)) = 32768 by decide]
    have hc := tmod_cases v 65536 (by decide)
    generalize v.tmod 65536 = t at *
    have ht : -65536 < t ∧ t < 65536 := by omega
    rw [w64 (t + 65536) (by omega), w64 (t - 65536) (by omega), w64 (t + 65536 - 65536) (by omega)]
    simp only [gd_pos (show (!((2 : Int) == 0)) = true by decide), Bool.cond_eq_ite, decide_eq_true_eq]
    by_cases c1 : t < -32768
    · rw [if_pos c1, if_neg (show ¬ t + 65536 ≥ 32768 by omega)]; exact congrArg some (by omega)
    · rw [if_neg c1]
      by_cases c2 : t ≥ 32768
      · rw [if_pos c2]; exact congrArg some (by omega)
      · rw [if_neg c2]; exact congrArg some (by omega)
  · have hpow : Gr01_power.f 24 = some 16777216 := power_f 24 (by decide)
    have hn : nrm 24 v = (v + 8388608) % 16777216 - 8388608 := by simp [nrm]
    rw [hpow, Option.bind_some, hn]
    rw [gd_pos (by decide), gd_pos (by decide), show (IntKind.i64.wrap ((IntKind.i64.wrap (0 - 16777216)).tdiv 2)) = -8388608 by decide, show (IntKind.i64.wrap ((16777216 : Int).tdiv 2)) = 8388608 by decide]
    have hc := tmod_cases v 16777216 (by decide)
    generalize v.tmod 16777216 = t at *
    have ht : -16777216 < t ∧ t < 16777216 := by omega
    rw [w64 (t + 16777216) (by omega), w64 (t - 16777216) (by omega), w64 (t + 16777216 - 16777216) (by omega)]
    simp only [gd_pos (show (!((2 : Int) == 0)) = true by decide), Bool.cond_eq_ite, decide_eq_true_eq]
    by_cases c1 : t < -8388608
    · rw [if_pos c1, if_neg (show ¬ t + 16777216 ≥ 8388608 by omega)]; exact congrArg some (by omega)
    · rw [if_neg c1]
      by_cases c2 : t ≥ 8388608
      · rw [if_pos c2]; exact congrArg some (by omega)
      · rw [if_neg c2]; exact congrArg some (by omega)
  · have hpow : Gr01_power.f 32 = some 4294967296 := power_f 32 (by decide)
    have hn : nrm 32 v = (v + 2147483648) % 4294967296 - 2147483648 := by simp [nrm]
    rw [hpow, Option.bind_some, hn]
    rw [gd_pos (by decide), gd_pos (by decide), show (IntKind.i64.wrap ((IntKind.i64.wrap (0 - 4294967296)).tdiv 2)) = -2147483648 by decide, show (IntKind.i64.wrap ((4294967296 : Int).tdiv 2)) = 2147483648 by decide]
    have hc := tmod_cases v 4294967296 (by decide)
    generalize v.tmod 4294967296 = t at *
    have ht : -4294967296 < t ∧ t < 4294967296 := by omega
    rw [w64 (t + 4294967296) (by omega), w64 (t - 4294967296) (by omega), w64 (t + 4294967296 - 4294967296) (by omega)]
    simp only [gd_pos (show (!((2 : Int) == 0)) = true by decide), Bool.cond_eq_ite, decide_eq_true_eq]
    by_cases c1 : t < -2147483648
    · rw [if_pos c1, if_neg (show ¬ t + 4294967296 ≥ 2147483648 by omega)]; exact congrArg some (by omega)
    · rw [if_neg c1]
      by_cases c2 : t ≥ 2147483648
      · rw [if_pos c2]; exact congrArg some (by omega)
      · rw [if_neg c2]; exact congrArg some (by omega)
/-! ### one byte of a word -/
theorem wrapB (z : Int) : IntKind.i64.wrap ((BitVec.ofInt 64 z).toNat : Int) = IntKind.i64.wrap z := by
  rw [BitVec.toNat_ofInt, wrap_def, wrap_def]
  have : ((2 ^ 64 : Nat) : Int) = 18446744073709551616 := rfl
  rw [this]
  omega
theorem bit_out {n s i : Nat} (h : n / 2 ^ s % 256 = 0) (h1 : s ≤ i) (h2 : i < s + 8) : n.testBit i = false := by
  have h3 : (n / 2 ^ s % 2 ^ 8).testBit (i - s) = false := by
    rw [show (2 : Nat) ^ 8 = 256 from rfl, h]; simp
  rw [Nat.testBit_mod_two_pow, Nat.testBit_div_two_pow] at h3
  rw [show i - s + s = i by omega] at h3
  simpa [show i - s < 8 by omega] using h3
theorem bits_off (w : Int) (s : Nat) (h : (BitVec.ofInt 64 w).toNat / 2 ^ s % 256 = 0) : BitVec.ofInt 64 w &&& ~~~ BitVec.ofInt 64 (255 * 2 ^ s) = BitVec.ofInt 64 w := by
  have hM : BitVec.ofInt 64 (255 * 2 ^ s) = BitVec.ofNat 64 (255 * 2 ^ s) := by
    rw [← BitVec.ofInt_natCast]; congr 1
  rw [hM]
  apply BitVec.eq_of_getLsbD_eq
  intro i hi
  simp only [BitVec.getLsbD_and, BitVec.getLsbD_not, BitVec.getLsbD_ofNat, hi, decide_true, Bool.true_and, Nat.testBit_mul_two_pow]
  by_cases h1 : s ≤ i
  · by_cases h2 : i < s + 8
    · have := bit_out h h1 h2
      rw [BitVec.testBit_toNat] at this
      rw [this]; rfl
    · have : (255 : Nat).testBit (i - s) = false := Nat.testBit_lt_two_pow (by
        have := Nat.pow_le_pow_right (n := 2) (by decide) (show 8 ≤ i - s by omega)
        omega)
      rw [this]; simp
  · simp [h1]
theorem bits_or (w v : Int) (s : Nat) (h : (BitVec.ofInt 64 w).toNat / 2 ^ s % 256 = 0) (h0 : 0 ≤ v) (h1 : v < 256) : BitVec.ofInt 64 w ||| BitVec.ofInt 64 (v * 2 ^ s) = BitVec.ofInt 64 (w + v * 2 ^ s) := by
  obtain ⟨m, rfl⟩ : ∃ m : Nat, v = m := ⟨v.toNat, by omega⟩
  have hM : BitVec.ofInt 64 ((m : Int) * 2 ^ s) = BitVec.ofNat 64 (m * 2 ^ s) := by
    rw [← BitVec.ofInt_natCast]; congr 1
  rw [BitVec.ofInt_add, hM]
  refine (BitVec.add_eq_or_of_and_eq_zero _ _ ?_).symm
  apply BitVec.eq_of_getLsbD_eq
  intro i hi
  simp only [BitVec.getLsbD_and, BitVec.getLsbD_ofNat, hi, decide_true, Bool.true_and, Nat.testBit_mul_two_pow, BitVec.getLsbD_zero]
  by_cases h2 : s ≤ i
  · by_cases h3 : i < s + 8
    · have := bit_out h h2 h3
      rw [BitVec.testBit_toNat] at this
      rw [this]; simp
    · have : m.testBit (i - s) = false := Nat.testBit_lt_two_pow (by
        have := Nat.pow_le_pow_right (n := 2) (by decide) (show 8 ≤ i - s by omega)
        omega)
      rw [this]; simp
  · simp [h2]
theorem bits_byte (v : Int) (h0 : 0 ≤ v) (h1 : v < 256) : BitVec.ofInt 64 v &&& BitVec.ofInt 64 255 = BitVec.ofInt 64 v := by
  obtain ⟨m, rfl⟩ : ∃ m : Nat, v = m := ⟨v.toNat, by omega⟩
  rw [BitVec.ofInt_natCast, show BitVec.ofInt 64 255 = BitVec.ofNat 64 255 from rfl]
  apply BitVec.eq_of_getLsbD_eq
  intro i hi
  simp only [BitVec.getLsbD_and, BitVec.getLsbD_ofNat, hi, decide_true, Bool.true_and]
  by_cases h3 : i < 8
  · have : (255 : Nat).testBit i = true := by
      rw [show (255 : Nat) = 2 ^ 8 - 1 from rfl, Nat.testBit_two_pow_sub_one]; simpa using h3
    rw [this]; simp
  · have : m.testBit i = false := Nat.testBit_lt_two_pow (by
      have := Nat.pow_le_pow_right (n := 2) (by decide) (show 8 ≤ i by omega)
      omega)
    rw [this]; simp
/-- By how many bits a byte of a word is shifted. -/
def shN (b : Int) (big : Bool) (j : Nat) : Nat := if big then (if b = 16 then 8 * (1 - j) else if b = 24 then 8 * (2 - j) else 8 * (3 - j)) else 8 * j
def byN (b : Int) : Nat := if b = 16 then 2 else if b = 24 then 3 else 4
theorem by_div {b : Int} (hb : okBits b) : IntKind.i64.wrap (b.tdiv 8) = (byN b : Int) := by
  rcases hb with rfl | rfl | rfl <;> rfl
theorem shift_f (f : D) (hb : okBits f.f0) (j : Nat) (hj : j < byN f.f0) : Gword_shift.f (j : Int) f = some (shN f.f0 f.b1 j : Int) := by
  have e0 : (f.cell 0).int = f.f0 := rfl
  have e1 : (f.cell 1).bool = f.b1 := rfl
  unfold Gword_shift.f
  rw [e0, e1, by_div hb, gd_pos (by decide)]
  have hm : ((j : Int)).tmod (byN f.f0 : Int) = (j : Int) := by
    rw [Int.tmod_eq_emod_of_nonneg (by omega)]
    exact Int.emod_eq_of_lt (by omega) (by omega)
  rw [hm]
  have hn : 2 ≤ byN f.f0 ∧ byN f.f0 ≤ 4 := by unfold byN; split <;> (try split) <;> omega
  rw [gd_pos (show (!((byN f.f0 : Int) == 0)) = true by
    have : ¬ (byN f.f0 : Int) = 0 := by omega
    simp; omega), gd_pos (show (!((byN f.f0 : Int) == 0)) = true by
    have : ¬ (byN f.f0 : Int) = 0 := by omega
    simp; omega)]
  rw [w64 ((byN f.f0 : Int) - 1) (by omega), w64 ((byN f.f0 : Int) - 1 - (j : Int)) (by omega), w64 (8 * ((byN f.f0 : Int) - 1 - (j : Int))) (by omega), w64 (8 * (j : Int)) (by omega)]
  have key : ∀ big : Bool, (bif big then some (8 * ((byN f.f0 : Int) - 1 - (j : Int))) else some (8 * (j : Int))) = some (shN f.f0 big j : Int) := by
    intro big
    unfold shN
    unfold byN at hj ⊢
    cases big with
    | false => simp
    | true =>
      rcases hb with h | h | h <;> rw [h] at hj ⊢ <;> simp at hj ⊢ <;> omega
  exact key _
theorem with_f (f : D) (hb : okBits f.f0) (j : Nat) (hj : j < byN f.f0) (S v : Int) (h0 : 0 ≤ v) (h1 : v < 256) (hS : S / 2 ^ shN f.f0 f.b1 j % 256 = 0) :
    Gword_With.f (nrm f.f0 S) (j : Int) v f = some (nrm f.f0 (S + v * 2 ^ shN f.f0 f.b1 j)) := by
  have e0 : (f.cell 0).int = f.f0 := rfl
  unfold Gword_With.f
  rw [shift_f f hb j hj, Option.bind_some]
  have hs4 : shN f.f0 f.b1 j = 0 ∨ shN f.f0 f.b1 j = 8 ∨ (shN f.f0 f.b1 j = 16 ∧ f.f0 ≠ 16) ∨ (shN f.f0 f.b1 j = 24 ∧ f.f0 = 32) := by
    unfold shN
    unfold byN at hj
    cases f.b1 <;> (rcases hb with h | h | h <;> rw [h] at hj ⊢ <;> simp at hj ⊢ <;> omega)
  generalize hs : shN f.f0 f.b1 j = s at *
  have hs24 : s ≤ 24 := by omega
  have hmin : min ((s : Int)).toNat (IntKind.i64).bits = s := by
    show min s 64 = s
    omega
  have hp0 : (0 : Int) < 2 ^ s := Int.pow_pos (by decide)
  have hp1 : (2 : Int) ^ s ≤ 16777216 := by rcases hs4 with h | h | ⟨h, -⟩ | ⟨h, -⟩ <;> rw [h] <;> decide
  have hvp : 0 ≤ v * 2 ^ s ∧ v * 2 ^ s ≤ 4278190080 := by
    rcases hs4 with h | h | ⟨h, -⟩ | ⟨h, -⟩ <;> rw [h] <;> simp <;> omega
  have hMp : (255 : Int) * 2 ^ s ≤ 4278190080 := by omega
  have hN : -2147483648 ≤ nrm f.f0 S ∧ nrm f.f0 S < 2147483648 := by
    unfold nrm
    rcases hb with h | h | h <;> rw [h] <;> simp <;> omega
  have hW : (BitVec.ofInt 64 (nrm f.f0 S)).toNat / 2 ^ s % 256 = 0 := by
    rw [BitVec.toNat_ofInt, show ((2 ^ 64 : Nat) : Int) = 18446744073709551616 from rfl]
    unfold nrm
    rcases hb with h | h | h <;> (rcases hs4 with g | g | ⟨g, g'⟩ | ⟨g, g'⟩ <;> rw [g] at hS ⊢ <;> rw [h] <;> simp at hS ⊢ <;> first | omega | (exfalso; omega))
  show (gd (decide (0 ≤ (s : Int))) (gd (decide (0 ≤ (s : Int))) ((Gword_norm.f (IntKind.i64.wrap ((BitVec.ofInt 64 (IntKind.i64.wrap ((BitVec.ofInt 64 (nrm f.f0 S) &&& ~~~ BitVec.ofInt 64 (IntKind.i64.wrap ((255 : Int) * 2 ^ (min ((s : Int)).toNat (IntKind.i64).bits)))).toNat : Int)) ||| BitVec.ofInt 64 (IntKind.i64.wrap ((IntKind.i64.wrap ((BitVec.ofInt 64 v &&& BitVec.ofInt 64 255).toNat : Int)) * 2 ^ (min ((s : Int)).toNat (IntKind.i64).bits)))).toNat : Int)) ((f.cell 0).int)).bind fun r2 => some r2))) = _
  rw [gd_pos (decide_eq_true (by omega)), gd_pos (decide_eq_true (by omega)), hmin, w64 (255 * 2 ^ s) (by omega), bits_off _ _ hW, wrapB, w64 (nrm f.f0 S) (by omega), bits_byte v h0 h1, wrapB, w64 v (by omega), w64 (v * 2 ^ s) (by omega), bits_or _ _ _ hW h0 h1, wrapB, w64 _ (by omega), e0, norm_f _ _ hb, Option.bind_some]
  congr 1
  unfold nrm
  rcases hb with h | h | h <;> rw [h] <;> simp <;> omega
end Go.Pv

namespace Go.Pv
open Go.Proofs
set_option maxRecDepth 20000
set_option linter.unusedSimpArgs false
/-- The first m bytes of a word, as a number. -/
def tw (b : Int) (big : Bool) (bs : List D) (k : Nat) : Nat → Int
  | 0 => 0
  | m + 1 => tw b big bs k m + (rd bs (k * byN b + m)).int * 2 ^ shN b big m
def Byt (bs : List D) : Prop := ∀ i, 0 ≤ (rd bs i).int ∧ (rd bs i).int < 256
theorem byN_cases {b : Int} (hb : okBits b) : (b = 16 ∧ byN b = 2) ∨ (b = 24 ∧ byN b = 3) ∨ (b = 32 ∧ byN b = 4) := by
  rcases hb with rfl | rfl | rfl
  · exact .inl ⟨rfl, rfl⟩
  · exact .inr (.inl ⟨rfl, rfl⟩)
  · exact .inr (.inr ⟨rfl, rfl⟩)
theorem tw_ok {b : Int} (hb : okBits b) (big : Bool) {bs : List D} (h : Byt bs) (k m : Nat) (hm : m < byN b) : tw b big bs k m / 2 ^ shN b big m % 256 = 0 := by
  have h0 := h (k * byN b + 0)
  have h1 := h (k * byN b + 1)
  have h2 := h (k * byN b + 2)
  rcases byN_cases hb with ⟨e, en⟩ | ⟨e, en⟩ | ⟨e, en⟩
  · rw [en] at hm
    have : m = 0 ∨ m = 1 := by omega
    rcases this with rfl | rfl
    · simp [tw]
    · simp only [tw]
      generalize (rd bs (k * byN b + 0)).int = x0 at *
      cases big <;> simp [shN, e] <;> omega
  · rw [en] at hm
    have : m = 0 ∨ m = 1 ∨ m = 2 := by omega
    rcases this with rfl | rfl | rfl
    · simp [tw]
    · simp only [tw]
      generalize (rd bs (k * byN b + 0)).int = x0 at *
      cases big <;> simp [shN, e] <;> omega
    · simp only [tw]
      generalize (rd bs (k * byN b + 0)).int = x0 at *
      generalize (rd bs (k * byN b + 1)).int = x1 at *
      cases big <;> simp [shN, e] <;> omega
  · rw [en] at hm
    have : m = 0 ∨ m = 1 ∨ m = 2 ∨ m = 3 := by omega
    rcases this with rfl | rfl | rfl | rfl
    · simp [tw]
    · simp only [tw]
      generalize (rd bs (k * byN b + 0)).int = x0 at *
      cases big <;> simp [shN, e] <;> omega
    · simp only [tw]
      generalize (rd bs (k * byN b + 0)).int = x0 at *
      generalize (rd bs (k * byN b + 1)).int = x1 at *
      cases big <;> simp [shN, e] <;> omega
    · simp only [tw]
      generalize (rd bs (k * byN b + 0)).int = x0 at *
      generalize (rd bs (k * byN b + 1)).int = x1 at *
      generalize (rd bs (k * byN b + 2)).int = x2 at *
      cases big <;> simp [shN, e] <;> omega
/-! ### words, byte by byte -/
def cntN (n i k : Nat) : Nat := if k < i / n then n else if k = i / n then i % n else 0
theorem cnt_next {n i k : Nat} (hn : n = 2 ∨ n = 3 ∨ n = 4) : cntN n (i + 1) k = if k = i / n then i % n + 1 else cntN n i k := by
  unfold cntN
  rcases hn with rfl | rfl | rfl <;> (repeat' split) <;> omega
theorem range_set (L k : Nat) (f g : Nat → D) (x : D) (h1 : g k = x) (h2 : ∀ m, m ≠ k → g m = f m) : ((List.range L).map f).set k x = (List.range L).map g := by
  apply List.ext_getElem?
  intro m
  rw [List.getElem?_set]
  by_cases e : k = m
  · subst e
    by_cases hk : k < L
    · simp [hk, h1]
    · simp [hk]
  · rw [if_neg e]
    by_cases hm : m < L
    · simp [hm, h2 m (fun h => e h.symm)]
    · simp [hm]
theorem rd_range (L k : Nat) (f : Nat → D) (h : k < L) : rd ((List.range L).map f) k = f k := by
  have h1 := rd_get (xs := (List.range L).map f) (i := k) (by simpa using h)
  simp [h] at h1
  exact h1.symm
def outW (f : D) (bs : List D) (L i : Nat) : List D := (List.range L).map fun k => .i (nrm f.f0 (tw f.f0 f.b1 bs k (cntN (byN f.f0) i k)))
def wordsL (f : D) (bs : List D) (L : Nat) : List D := (List.range L).map fun k => .i (nrm f.f0 (tw f.f0 f.b1 bs k (byN f.f0)))
theorem byN_234 {b : Int} (hb : okBits b) : byN b = 2 ∨ byN b = 3 ∨ byN b = 4 := by rcases byN_cases hb with ⟨-, e⟩ | ⟨-, e⟩ | ⟨-, e⟩ <;> omega
theorem words_l (f : D) (hb : okBits f.f0) (bs : List D) (hB : Byt bs) (L : Nat) (hL : L ≤ 1000000) (hl : bs.length = L * byN f.f0) (κ : List D → Option (List D × Int)) : ∀ (n i k : Nat), bs.length - i = n → i ≤ bs.length → n < k →
    Gword_Words.l250 k f (byN f.f0 : Int) (outW f bs L i) bs (bs.length : Int) (i : Int) κ = κ (outW f bs L bs.length)
  | 0, i, k, hn, hi, hk => by
    obtain ⟨k, rfl⟩ : ∃ m, k = m + 1 := ⟨k - 1, by omega⟩
    obtain rfl : i = bs.length := by omega
    simp only [Gword_Words.l250]
    rw [decide_eq_false (by omega), cond_false]
  | n + 1, i, k, hn, hi, hk => by
    obtain ⟨k, rfl⟩ : ∃ m, k = m + 1 := ⟨k - 1, by omega⟩
    have hlt : i < bs.length := by omega
    have ih := words_l f hb bs hB L hL hl κ n (i + 1) k (by omega) (by omega) (by omega)
    have h234 := byN_234 hb
    have hlen : bs.length ≤ 4000000 := by rw [hl]; rcases h234 with e | e | e <;> rw [e] <;> omega
    have g0 : inB (i : Int) bs.length = true := inB_pos (by omega)
    have gz : (!((byN f.f0 : Int) == 0)) = true := by simp; omega
    have hk0 : i / byN f.f0 < L := by rw [hl] at hlt; exact (Nat.div_lt_iff_lt_mul (by omega)).2 hlt
    have hj0 : i % byN f.f0 < byN f.f0 := Nat.mod_lt _ (by omega)
    have hle : i / byN f.f0 ≤ i := Nat.div_le_self _ _
    have hq0 : (0 : Int) ≤ (i : Int) / (byN f.f0 : Int) := Int.ediv_nonneg (by omega) (by omega)
    have hd : IntKind.i64.wrap (((i : Int)).tdiv (byN f.f0 : Int)) = ((i / byN f.f0 : Nat) : Int) := by
      rw [show ((i : Int)).tdiv (byN f.f0 : Int) = ((i / byN f.f0 : Nat) : Int) from rfl]
      exact w64 _ (by omega)
    have hm : ((i : Int)).tmod (byN f.f0 : Int) = ((i % byN f.f0 : Nat) : Int) := rfl
    have hol : (outW f bs L i).length = L := by simp [outW]
    have g1 : inB ((i / byN f.f0 : Nat) : Int) L = true := inB_pos (by omega)
    have g2 : Nat.blt (i / byN f.f0) L = true := blt_pos hk0
    have hbi := hB i
    have hrd : (rd (outW f bs L i) (i / byN f.f0)).int = nrm f.f0 (tw f.f0 f.b1 bs (i / byN f.f0) (i % byN f.f0)) := by
      unfold outW
      rw [rd_range _ _ _ hk0]
      simp [cntN, D.int]
    have hidx : i / byN f.f0 * byN f.f0 + i % byN f.f0 = i := Nat.div_add_mod' i _
    have hset : (outW f bs L i).set (i / byN f.f0) (.i (nrm f.f0 (tw f.f0 f.b1 bs (i / byN f.f0) (i % byN f.f0) + (rd bs i).int * 2 ^ shN f.f0 f.b1 (i % byN f.f0)))) = outW f bs L (i + 1) := by
      unfold outW
      refine range_set L _ _ _ _ ?_ fun m hm => ?_
      · rw [cnt_next h234, if_pos rfl]
        show D.i (nrm f.f0 (tw f.f0 f.b1 bs (i / byN f.f0) (i % byN f.f0) + (rd bs (i / byN f.f0 * byN f.f0 + i % byN f.f0)).int * _)) = _
        rw [hidx]
      · rw [cnt_next h234, if_neg hm]
    simp only [Gword_Words.l250, toNat_nat, hd, hm, hol, hrd]
    rw [decide_eq_true (show (i : Int) < (bs.length : Int) by omega), cond_true, gd_pos g0, gd_pos gz, gd_pos gz, gd_pos g1, gd_pos g2, gd_pos gz, w64 (rd bs i).int (by omega), with_f f hb _ hj0 _ _ hbi.1 hbi.2 (tw_ok hb _ hB _ _ hj0), Option.bind_some, gd_pos g1, gd_pos g2, w_succ i (by omega), hset, ih]
theorem valid_w (f : D) : Gword_Valid.f f = some ((f.f0 == 16 || f.f0 == 24) || f.f0 == 32) := rfl
theorem valid_r (f : D) : Gr01_Valid.f f = some ((f.f0 == 16 || f.f0 == 24) || f.f0 == 32) := rfl
theorem ok_true {b : Int} (hb : okBits b) : ((b == 16 || b == 24) || b == 32) = true := by rcases hb with rfl | rfl | rfl <;> rfl
theorem ok_false {b : Int} (hb : ¬ okBits b) : ((b == 16 || b == 24) || b == 32) = false := by
  rw [← Bool.not_eq_true]
  simp only [Bool.or_eq_true, beq_iff_eq]
  intro h
  apply hb
  rcases h with (h | h) | h
  · exact .inl h
  · exact .inr (.inl h)
  · exact .inr (.inr h)
theorem nrm_0 {b : Int} (hb : okBits b) : nrm b 0 = 0 := by rcases hb with rfl | rfl | rfl <;> rfl
theorem words_f (f : D) (hb : okBits f.f0) (bs : List D) (hB : Byt bs) (L : Nat) (hL : L ≤ 1000000) (hl : bs.length = L * byN f.f0) : Gword_Words.f bs f = some (wordsL f bs L, 0) := by
  have e0 : (f.cell 0).int = f.f0 := rfl
  have h234 := byN_234 hb
  have gz : (!((byN f.f0 : Int) == 0)) = true := by simp; omega
  unfold Gword_Words.f
  rw [valid_w, ok_true hb, Option.bind_some, e0, by_div hb]
  have hm : ((bs.length : Int)).tmod (byN f.f0 : Int) = 0 := by
    rw [show ((bs.length : Int)).tmod (byN f.f0 : Int) = ((bs.length % byN f.f0 : Nat) : Int) from rfl, hl, Nat.mul_mod_left]; rfl
  have hd : IntKind.i64.wrap (((bs.length : Int)).tdiv (byN f.f0 : Int)) = (L : Int) := by
    rw [show ((bs.length : Int)).tdiv (byN f.f0 : Int) = ((bs.length / byN f.f0 : Nat) : Int) from rfl, hl, Nat.mul_div_cancel _ (by omega)]
    exact w64 _ (by omega)
  rw [hm, hd, gz]
  simp only [Bool.not_true, Bool.not_false, Bool.or_true, bne_self_eq_false, Bool.or_self, cond_false, show (!((8 : Nat) == 0)) = true by decide, show (!((8 : Int) == 0)) = true by decide, gd, cond_true]
  have hlim : (decide (0 ≤ (L : Int)) && decide ((L : Int) ≤ (lim : Int))) = true := by
    rw [decide_eq_true (by omega), decide_eq_true (by unfold lim; omega)]; rfl
  rw [hlim, cond_true, toNat_nat]
  have h0 : List.replicate L (D.i 0) = outW f bs L 0 := by
    symm
    rw [List.eq_replicate_iff]
    refine ⟨by simp [outW], fun x hx => ?_⟩
    obtain ⟨k, -, rfl⟩ := List.mem_map.1 hx
    have : cntN (byN f.f0) 0 k = 0 := by unfold cntN; rcases h234 with e | e | e <;> rw [e] <;> simp
    rw [this]
    show D.i (nrm f.f0 0) = _
    rw [nrm_0 hb]
  have q := fun κ => words_l f hb bs hB L hL hl κ bs.length 0 NN (by omega) (by omega) (by
    have := le_NN
    have : bs.length ≤ 4000000 := by rw [hl]; rcases h234 with e | e | e <;> rw [e] <;> omega
    omega)
  rw [show ((0 : Nat) : Int) = 0 from rfl, ← h0] at q
  have q2 := q (fun y3 => some (y3, 0))
  refine q2.trans ?_
  have : outW f bs L bs.length = wordsL f bs L := by
    unfold outW wordsL
    refine List.map_congr_left fun k hk => ?_
    have hk := List.mem_range.1 hk
    have : cntN (byN f.f0) bs.length k = byN f.f0 := by
      unfold cntN
      rw [hl, Nat.mul_div_cancel _ (by omega), if_pos hk]
    rw [this]
  rw [this]
/-! ### a packed text -/
def totN (s n : Nat) : Nat := (s + n) / n * n
def alN (s : ByteArray) (n : Nat) : List D := .i (s.size : Int) :: (ubytes s ++ List.replicate (totN s.size n - 1 - s.size) (.i 0))
theorem tot_bd {s n : Nat} (hn : n = 2 ∨ n = 3 ∨ n = 4) : s + 1 ≤ totN s n ∧ totN s n ≤ s + n := by
  unfold totN
  rcases hn with rfl | rfl | rfl <;> omega
theorem ub_len (s : ByteArray) : (ubytes s).length = s.size := by simp only [ubytes, List.length_map, Array.length_toList]; rfl
theorem al_len (s : ByteArray) {n : Nat} (hn : n = 2 ∨ n = 3 ∨ n = 4) : (alN s n).length = totN s.size n := by
  have := tot_bd (s := s.size) hn
  simp only [alN, List.length_cons, List.length_append, ub_len, List.length_replicate]
  omega
theorem al_byt (s : ByteArray) (hs : s.size ≤ 255) (n : Nat) : Byt (alN s n) := by
  intro i
  by_cases hi : i < (alN s n).length
  · have hm := rd_mem hi
    generalize rd (alN s n) i = x at *
    unfold alN at hm
    rcases List.mem_cons.1 hm with rfl | hm
    · simp only [D.int]; omega
    · rcases List.mem_append.1 hm with hm | hm
      · simp only [ubytes] at hm
        obtain ⟨c, -, rfl⟩ := List.mem_map.1 hm
        have := c.toNat_lt
        simp only [D.int]; omega
      · rw [List.eq_of_mem_replicate hm]; simp only [D.int]; omega
  · rw [rd_out _ _ (by omega)]; simp only [D.int]; omega
theorem u8_wrap (n : Int) (h0 : 0 ≤ n) (h1 : n ≤ 255) : IntKind.u8.wrap n = n := by
  simp only [IntKind.wrap, IntKind.signed, IntKind.bits]
  simp
  omega
theorem pack_f (s : ByteArray) (hs : s.size ≤ 255) (f : D) (hb : okBits f.f0) : Gword_Pack.f s f = some (wordsL f (alN s (byN f.f0)) (totN s.size (byN f.f0) / byN f.f0), 0) := by
  have e0 : (f.cell 0).int = f.f0 := rfl
  have h234 := byN_234 hb
  have gz : (!((byN f.f0 : Int) == 0)) = true := by simp; omega
  have ht := tot_bd (s := s.size) h234
  unfold Gword_Pack.f
  rw [valid_w, ok_true hb, Option.bind_some, e0, by_div hb]
  have htot : IntKind.i64.wrap ((IntKind.i64.wrap ((IntKind.i64.wrap ((IntKind.i64.wrap ((IntKind.i64.wrap ((s.size : Int) + 1)) + (byN f.f0 : Int))) - 1)).tdiv (byN f.f0 : Int))) * (byN f.f0 : Int)) = ((totN s.size (byN f.f0) : Nat) : Int) := by
    rw [w64 ((s.size : Int) + 1) (by omega), w64 ((s.size : Int) + 1 + (byN f.f0 : Int)) (by omega), w64 ((s.size : Int) + 1 + (byN f.f0 : Int) - 1) (by omega)]
    rw [show (s.size : Int) + 1 + (byN f.f0 : Int) - 1 = ((s.size + byN f.f0 : Nat) : Int) by omega]
    rw [show (((s.size + byN f.f0 : Nat) : Int)).tdiv (byN f.f0 : Int) = (((s.size + byN f.f0) / byN f.f0 : Nat) : Int) from rfl]
    have hle : (s.size + byN f.f0) / byN f.f0 ≤ s.size + byN f.f0 := Nat.div_le_self _ _
    have hq0 : (0 : Int) ≤ ((s.size + byN f.f0 : Nat) : Int) / (byN f.f0 : Int) := Int.ediv_nonneg (by omega) (by omega)
    rw [w64 (((s.size + byN f.f0) / byN f.f0 : Nat) : Int) (by omega)]
    have hmul : (((s.size + byN f.f0) / byN f.f0 : Nat) : Int) * (byN f.f0 : Int) = ((totN s.size (byN f.f0) : Nat) : Int) := by unfold totN; simp
    rw [hmul]
    exact w64 _ (by omega)
  rw [htot]
  obtain ⟨t, htt⟩ : ∃ t, totN s.size (byN f.f0) = t + 1 := ⟨totN s.size (byN f.f0) - 1, by omega⟩
  have hlst : ((List.replicate (totN s.size (byN f.f0)) (D.i 0)).set 0 (.i (IntKind.u8.wrap (s.size : Int)))).take 1 ++ ((ubytes s) ++ ((List.replicate (totN s.size (byN f.f0)) (D.i 0)).set 0 (.i (IntKind.u8.wrap (s.size : Int)))).drop (1 + (ubytes s).length)) = alN s (byN f.f0) := by
    unfold alN
    rw [u8_wrap _ (by omega) (by omega), htt, ub_len, List.replicate_succ, List.set_cons_zero, show 1 + s.size = s.size + 1 by omega, List.drop_succ_cons, List.drop_replicate]
    simp
  rw [decide_eq_false (show ¬ (s.size : Int) > 255 by omega)]
  simp only [Bool.not_true, cond_false, gz, show (!((8 : Nat) == 0)) = true by decide, show (!((8 : Int) == 0)) = true by decide, gd_pos rfl, toNat_nat, hlst, List.length_replicate, List.length_set]
  have q := words_f f hb (alN s (byN f.f0)) (al_byt s hs _) (totN s.size (byN f.f0) / byN f.f0) (by have := Nat.div_le_self (totN s.size (byN f.f0)) (byN f.f0); omega) (by rw [al_len s h234]; unfold totN; rw [Nat.mul_div_cancel _ (by omega)])
  rw [q]
  have hlim : (decide (0 ≤ ((totN s.size (byN f.f0) : Nat) : Int)) && decide (((totN s.size (byN f.f0) : Nat) : Int) ≤ (lim : Int))) = true := by
    rw [decide_eq_true (by omega), decide_eq_true (by unfold lim; omega)]; rfl
  rw [gd_pos hlim, gd_pos (inB_pos (by omega)), gd_pos (blt_pos (by omega)), gd_pos (by rw [decide_eq_true (by omega), decide_eq_true (by omega)]; rfl), gd_pos (ble_pos (by rw [ub_len]; omega))]
  rfl
/-! ### the reference's -/
theorem size_f (f : D) (hb : okBits f.f0) : Gr01_size.f f = some (byN f.f0 : Int) := by
  have e0 : (f.cell 0).int = f.f0 := rfl
  unfold Gr01_size.f
  rw [e0, by_div hb, gd_pos (by decide)]
def hvN (big : Bool) (l : List D) (n : Nat) : Nat → Int
  | 0 => 0
  | i + 1 => hvN big l n i * 256 + (rd l (if big then i else n - 1 - i)).int
theorem hv_bd (big : Bool) (l : List D) (h : Byt l) (n : Nat) : ∀ i, i ≤ 4 → 0 ≤ hvN big l n i ∧ hvN big l n i < 256 ^ i
  | 0, _ => by simp [hvN]
  | i + 1, hi => by
    have ih := hv_bd big l h n i (by omega)
    have hx := h (if big then i else n - 1 - i)
    rw [hvN, Int.pow_succ]
    omega
theorem join_l (l : List D) (hB : Byt l) (f : D) (n : Nat) (hn : l.length = n) (h4 : n ≤ 4) (κ : D × Int → Option Int) : ∀ (m i k : Nat), n - i = m → i ≤ n → m < k → Gr01_join.l58 k l f (hvN f.b1 l n i) (i : Int) κ = κ (f, hvN f.b1 l n n)
  | 0, i, k, hm, hi, hk => by
    obtain ⟨k, rfl⟩ : ∃ m, k = m + 1 := ⟨k - 1, by omega⟩
    obtain rfl : i = n := by omega
    simp only [Gr01_join.l58]
    rw [decide_eq_false (by omega), cond_false]
  | m + 1, i, k, hm, hi, hk => by
    obtain ⟨k, rfl⟩ : ∃ m, k = m + 1 := ⟨k - 1, by omega⟩
    have ih := join_l l hB f n hn h4 κ m (i + 1) k (by omega) (by omega) (by omega)
    have hbd := hv_bd f.b1 l hB n i (by omega)
    have hp : (256 : Int) ^ i ≤ 16777216 := by
      have : i = 0 ∨ i = 1 ∨ i = 2 ∨ i = 3 := by omega
      rcases this with rfl | rfl | rfl | rfl <;> decide
    have e1 : (f.cell 1).bool = f.b1 := rfl
    simp only [Gr01_join.l58]
    rw [decide_eq_true (show (i : Int) < (l.length : Int) by omega), cond_true, e1]
    have key : ∀ j : Nat, j < n → (Gr01_join.p3731 l f (hvN f.b1 l n i) (i : Int) (j : Int) fun y => Gr01_join.l58 k y.1 y.2.1 y.2.2.1 (IntKind.i64.wrap (y.2.2.2 + 1)) κ) = Gr01_join.l58 k l f (hvN f.b1 l n i * 256 + (rd l j).int) ((i + 1 : Nat) : Int) κ := fun j hj => by
      have hx := hB j
      unfold Gr01_join.p3731
      rw [gd_pos (inB_pos (by omega)), toNat_nat, w64 (hvN f.b1 l n i * 256) (by omega), w64 _ (by omega)]
      simp only [w_succ i (show (i : Int) + 1 ≤ 9223372036854775807 by omega)]
    rw [hvN] at ih
    cases hbig : f.b1 with
    | true =>
      rw [hbig] at key ih
      rw [cond_true, key i (by omega)]
      simpa using ih
    | false =>
      rw [hbig] at key ih
      rw [cond_false, w64 ((l.length : Int) - 1) (by omega), w64 ((l.length : Int) - 1 - (i : Int)) (by omega), show (l.length : Int) - 1 - (i : Int) = ((n - 1 - i : Nat) : Int) by omega, key (n - 1 - i) (by omega)]
      simpa using ih
theorem hv_tw {b : Int} (hb : okBits b) (big : Bool) (l : List D) : hvN big l (byN b) (byN b) = tw b big l 0 (byN b) := by
  rcases byN_cases hb with ⟨e, en⟩ | ⟨e, en⟩ | ⟨e, en⟩
  · rw [en]; cases big <;> simp [hvN, tw, shN, e] <;> omega
  · rw [en]; cases big <;> simp [hvN, tw, shN, e] <;> omega
  · rw [en]; cases big <;> simp [hvN, tw, shN, e] <;> omega
theorem join_f (l : List D) (hB : Byt l) (f : D) (hb : okBits f.f0) (hn : l.length = byN f.f0) : Gr01_join.f l f = some (nrm f.f0 (tw f.f0 f.b1 l 0 (byN f.f0))) := by
  have h234 := byN_234 hb
  have e0 : (f.cell 0).int = f.f0 := rfl
  unfold Gr01_join.f
  have q := fun κ => join_l l hB f (byN f.f0) hn (by omega) κ (byN f.f0) 0 NN (by omega) (by omega) (by have := le_NN; omega)
  rw [show ((0 : Nat) : Int) = 0 from rfl] at q
  rw [show hvN f.b1 l (byN f.f0) 0 = 0 from rfl] at q
  rw [q]
  simp only
  rw [e0, rnorm_f _ _ hb, Option.bind_some, hv_tw hb]
theorem rd_ub (s : ByteArray) {i : Nat} (hi : i < s.size) : rd (ubytes s) i = .i (bt s i) := by
  have h1 := rd_get (xs := ubytes s) (i := i) (by rw [ub_len]; exact hi)
  have hi' : i < s.data.toList.length := by rw [Array.length_toList]; exact hi
  have h3 : (ubytes s)[i]? = some (.i (bt s i)) := by
    simp only [ubytes, List.getElem?_map, List.getElem?_eq_getElem hi', Option.map_some, bt, List.getD_eq_getElem?_getD, Option.getD_some]
  rw [h3] at h1
  exact (Option.some.inj h1).symm
theorem rpack1_l (s : ByteArray) (hs : s.size ≤ 255) (f : D) (κ : D × List D → Option (List D × Int)) : ∀ (n i k : Nat), s.size - i = n → i ≤ s.size → n < k → Gr01_Pack.l250 k s f (.i (s.size : Int) :: (ubytes s).take i) (i : Int) κ = κ (f, .i (s.size : Int) :: ubytes s)
  | 0, i, k, hn, hi, hk => by
    obtain ⟨k, rfl⟩ : ∃ m, k = m + 1 := ⟨k - 1, by omega⟩
    obtain rfl : i = s.size := by omega
    simp only [Gr01_Pack.l250]
    rw [decide_eq_false (by omega), cond_false, List.take_of_length_le (by rw [ub_len]; omega)]
  | n + 1, i, k, hn, hi, hk => by
    obtain ⟨k, rfl⟩ : ∃ m, k = m + 1 := ⟨k - 1, by omega⟩
    have ih := rpack1_l s hs f κ n (i + 1) k (by omega) (by omega) (by omega)
    have hlt : i < s.size := by omega
    have hb : 0 ≤ bt s i ∧ bt s i < 256 := by
      unfold bt
      have := (s.data.toList.getD i 0).toNat_lt
      omega
    simp only [Gr01_Pack.l250, toNat_nat]
    rw [decide_eq_true (show (i : Int) < (s.size : Int) by omega), cond_true, gd_pos (inB_pos (by omega)), gd_pos (lim_pos (by simp [ub_len]; omega)), w_succ i (by omega), w64 (bt s i) (by omega)]
    have ht : (ubytes s).take (i + 1) = (ubytes s).take i ++ [.i (bt s i)] := by
      have h := rd_get (xs := ubytes s) (i := i) (by rw [ub_len]; exact hlt)
      rw [List.take_add_one, h, rd_ub s hlt]; simp
    rw [ht] at ih
    exact ih
theorem rpad_l (f : D) (hb : okBits f.f0) (κ : D × List D → Option (List D × Int)) : ∀ (r k : Nat) (xs : List D), xs.length + r ≤ 1000 → r < byN f.f0 → (xs.length + r) % byN f.f0 = 0 → r < k → Gr01_Pack.l252 k f xs κ = κ (f, xs ++ List.replicate r (.i 0))
  | 0, k, xs, hx, hr, hm, hk => by
    obtain ⟨k, rfl⟩ : ∃ m, k = m + 1 := ⟨k - 1, by omega⟩
    have h234 := byN_234 hb
    have gz : (!((byN f.f0 : Int) == 0)) = true := by simp; omega
    simp only [Gr01_Pack.l252, size_f f hb, Option.bind_some]
    rw [gd_pos gz, show ((xs.length : Int)).tmod (byN f.f0 : Int) = ((xs.length % byN f.f0 : Nat) : Int) from rfl, show xs.length % byN f.f0 = 0 by simpa using hm]
    simp
  | r + 1, k, xs, hx, hr, hm, hk => by
    obtain ⟨k, rfl⟩ : ∃ m, k = m + 1 := ⟨k - 1, by omega⟩
    have h234 := byN_234 hb
    have gz : (!((byN f.f0 : Int) == 0)) = true := by simp; omega
    have hp : 0 < xs.length % byN f.f0 := by
      generalize xs.length = m at *
      rcases h234 with e | e | e <;> rw [e] at hr hm ⊢ <;> omega
    have ih := rpad_l f hb κ r k (xs ++ [.i 0]) (by simp; omega) (by omega) (by simp; rw [← hm]; congr 1; omega) (by omega)
    simp only [Gr01_Pack.l252, size_f f hb, Option.bind_some]
    rw [gd_pos gz, show ((xs.length : Int)).tmod (byN f.f0 : Int) = ((xs.length % byN f.f0 : Nat) : Int) from rfl, decide_eq_true (show ((xs.length % byN f.f0 : Nat) : Int) > 0 by omega), cond_true, gd_pos (lim_pos (by simp; omega)), ih]
    simp [List.replicate_succ]
end Go.Pv
