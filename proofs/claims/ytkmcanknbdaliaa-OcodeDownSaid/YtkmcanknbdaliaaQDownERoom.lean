/- The contract of ocode.Room: by hand, in the printer's form. -/
import Derived.Test.YtkmcanknbdaliaaQDownEDepths
import Derived.IntWalk
namespace Go.Proofs.Ytkmcanknbdaliaa.Lx
open Go Go.RowKit Go.Proofs.YtkmcanknbdaliaaW.PrintWords Go.Proofs.YtkmcanknbdaliaaW.PrintLast Go.Proofs.YtkmcanknbdaliaaW.PrintMore Go.Proofs.Ytkmcanknbdaliaa.PO
set_option linter.unusedSimpArgs false
set_option linter.unusedVariables false
attribute [local go_sem] max2_int min2_int max_two min_two max_three min_three max_four min_four
/-- The procedure behind an instruction, and the rooms behind it. -/
def roomP (o : S35) (p : Int) : Int := if o.f0 = 24 then o.f1 else p
def room1 (o : S35) (d p : Int) (out : List Int) : List Int := if o.f0 = 24 then out else out.set (p - 1).toNat (mx (rd out (p - 1)) d)
def room2 (o : S35) (d p : Int) (out : List Int) : List Int := out.set (p - 1).toNat (mx (rd out (p - 1)) (afterI o d (kindAt o.f0)))
def roomL : List S35 → List Int → Int → List Int → List Int
  | o :: l, d :: ds, p, out => roomL l ds (roomP o p) (room2 o d (roomP o p) (room1 o d (roomP o p) out))
  | [], _, _, out => out
  | _ :: _, [], _, out => out
def roomR (c : Cod) : List Int × Int := if checkI c = 0 then (roomL c.ops (depthsL c.ops 0) 0 (List.replicate c.procs.toNat 0), 0) else ([], checkI c)
theorem room1_len (o : S35) (d p : Int) (out : List Int) : (room1 o d p out).length = out.length := by unfold room1; split <;> simp
theorem room2_len (o : S35) (d p : Int) (out : List Int) : (room2 o d p out).length = out.length := by unfold room2; simp
theorem depths_bd : ∀ (n : Nat) (l : List S35) (at_ : List Int) (i : Nat) (d : Int), l.length - i = n → 0 ≤ d → d ≤ 4000 → stackGo l at_ i d = true → ∀ x ∈ depthsL (l.drop i) d, 0 ≤ x ∧ x ≤ 4000
  | 0, l, at_, i, d, hn, h0, h1, h => by
    rw [List.drop_eq_nil_of_le (by omega)]
    intro x hx
    cases hx
  | n + 1, l, at_, i, d, hn, h0, h1, h => by
    have hi : i < l.length := by omega
    obtain ⟨a1, a2, a3⟩ := stackGo_next hi h
    rw [drop_opAt l i hi, depthsL]
    intro x hx
    rcases List.mem_cons.1 hx with rfl | hx
    · unfold ahead; split <;> omega
    · exact depths_bd n l at_ (i + 1) _ (by omega) (by omega) a2 a3 x hx
/-- A procedure's number where it is entered. -/
theorem enter_ok {c : Cod} {o : S35} (h : opOk c o = true) (h24 : o.f0 = 24) : 1 ≤ o.f1 ∧ o.f1 ≤ c.procs := by
  have h1 := (and2 (opOk_num h)).1
  unfold numOk at h1
  rw [h24, show (kindAt 24).f1 = 5 by kernel_rfl] at h1
  exact inB_iff h1
theorem order_first (l : List S35) : ∀ (n i : Nat), l.length - i ≤ n → orderGo l i = true → (decide (l.length = 0) || (opAt l 0).f0 == 24) = true
  | 0, i, hn, h => by
    rw [orderGo, if_neg (by omega)] at h
    exact h
  | n + 1, i, hn, h => by
    by_cases hi : i < l.length
    · rw [orderGo, if_pos hi] at h
      by_cases a : (opAt l i).f0 = 29
      · rw [if_pos a] at h
        exact order_first l n _ (by omega) (and2 h).2
      · rw [if_neg a] at h
        by_cases b : (opAt l i).f0 = 30
        · rw [if_pos b] at h
          exact absurd h (by decide)
        · rw [if_neg b] at h
          by_cases e : (opAt l i).f0 = 19
          · rw [if_pos e] at h
            exact order_first l n _ (by omega) (and2 h).2
          · rw [if_neg e] at h
            exact order_first l n _ (by omega) (and2 h).2
    · rw [orderGo, if_neg hi] at h
      exact h
theorem first_enter {c : Cod} (h : orderB c.ops = true) (hl : 0 < c.ops.length) : (opAt c.ops 0).f0 = 24 := by
  rcases Bool.or_eq_true_iff.1 (order_first c.ops c.ops.length 0 (by omega) h) with h1 | h1
  · have := of_decide_eq_true h1
    omega
  · exact beq_iff_eq.1 h1
theorem Rd.grown {w w5 W W1 : World} {c : Cod} {a : Adr} {B g : Nat} {o : S35} {v : Value} {xs : List Int} {b : Nat} {ok : Nat → Prop} (h : Rd w w5 c a B g o W) (hR : Kd.R (Kd.int .i64) 3 W b ok v xs) (hg : W.grownBy W1 v.ownBlock) (hb : Below w.heap.size w W1) (hs : Below w5.heap.size w5 W1) : Rd w w5 c a B g o W1 :=
  ⟨blk_grown h.x hg (Kd.R_ne hR h.x (by decide)), blk_grown h.y hg (Kd.R_ne hR h.y (by decide)), blk_grown h.k hg (Kd.R_ne hR h.k (by decide)), hb, hs⟩
/-- A store into the rooms. -/
theorem Rd.put {w w5 W : World} {c : Cod} {a : Adr} {B g G n cap : Nat} {o : S35} {xs : List Int} (h : Rd w w5 c a B g o W) (hR : Kd.R (Kd.int .i64) 3 W w.heap.size (fun _ => True) (.slice (some ⟨G, 0, none⟩) n cap) xs) (hG : w5.heap.size ≤ G) (hG2 : w.heap.size ≤ G) (i x : Int) (j : Nat) (hj : i.toNat = j) :
    Rd w w5 c a B g o (W.setCell ⟨G, j, none⟩ (.int .i64 x)) ∧ Kd.R (Kd.int .i64) 3 (W.setCell ⟨G, j, none⟩ (.int .i64 x)) w.heap.size (fun _ => True) (.slice (some ⟨G, 0, none⟩) n cap) (xs.set i.toNat x) := by
  subst hj
  obtain ⟨h1, h2⟩ := Kd.R_putg (enc := Value.int .i64) hR i x
  exact ⟨h.grown hR h2 (below_set h.b hG2) (below_set h.s hG), h1⟩
set_option maxRecDepth 100000 in
set_option maxHeartbeats 1000000 in
theorem room_calls (c : Cod) (a : Adr) (w : World) (h : CodAt w c a) (hf : Fine c) : Calls Try.prog 18 #[.agg (codCells c a)] w (DepPost w (roomR c)) := by
  obtain ⟨a1, b1, a2, b2, a3, b3⟩ := a
  have H := Lib.hid h
  have HF := Lib.hid hf
  clear h hf
  unfold codCells
  go_enter Try.func18, Try.ntmps18
  go_wp2_with fail
  refine (depths_calls c ⟨a1, b1, a2, b2, a3, b3⟩ _ (H.out.below (below_alloc (Below.refl _ _) _)) HF.out).mono ?_
  rintro e w2 ⟨v0, rfl, hR0, hb⟩
  obtain ⟨A0, c0, rfl, hc0, hC0⟩ := Kd.R_reads hR0
  have HC0 := Lib.hid hC0
  have HB0 : Hid (Below w.heap.size w (w.alloc (.cells #[.string c.name, .slice a1 c.data.length b1, .slice a2 c.ops.length b2, .slice a3 c.gl.length b3, .int .i64 c.procs, .int .i64 c.labels] 26))) := Lib.hid (below_alloc (Below.refl _ _) _)
  have HB := Lib.hid (below_step HB0.out hb)
  have HX := Lib.hid (blk_below (heap_alloc_new w (.cells #[.string c.name, .slice a1 c.data.length b1, .slice a2 c.ops.length b2, .slice a3 c.gl.length b3, .int .i64 c.procs, .int .i64 c.labels] 26)) hb)
  clear hb HB0 hR0 hC0 hc0
  by_cases hc : checkI c = 0
  case neg =>
    have HN : Hid (roomR c = ([], checkI c)) := Lib.hid (by unfold roomR; rw [if_neg hc])
    have HD : Hid (depthsR c = ([], checkI c)) := Lib.hid (by unfold depthsR; rw [if_neg hc])
    have hb0 : (checkI c != 0) = true := bne_iff_ne.2 hc
    clear hc
    rw [HD.out] at HC0 ⊢
    go_wp2_with fail
    go_ret2
    rw [HN.out]
    exact ⟨.slice none 0 0, rfl, Kd.R_nil _ _ _ _ _, HB.out⟩
  have HN : Hid (roomR c = (roomL c.ops (depthsL c.ops 0) 0 (List.replicate c.procs.toNat 0), 0)) := Lib.hid (by unfold roomR; rw [if_pos hc])
  have HD : Hid (depthsR c = (depthsL c.ops 0, 0)) := Lib.hid (by unfold depthsR; rw [if_pos hc])
  have HV := Lib.hid (check_ok HF.out hc)
  clear hc
  rw [HD.out] at HC0 ⊢
  go_wp2_with fail
  refine (kinds_calls _).mono ?_
  rintro e w3 ⟨rfl, rfl⟩
  obtain ⟨WT, hWT⟩ : ∃ WT, WT = (w2.alloc (.cells kindCells 54)).alloc (.cells kindCells 54) := ⟨_, rfl⟩
  have HBT : Hid (Below w.heap.size w WT) := Lib.hid (by rw [hWT]; exact below_alloc (below_alloc HB.out _) _)
  have HST : Hid (Below w2.heap.size w2 WT) := Lib.hid (by rw [hWT]; exact below_alloc (below_alloc (Below.refl _ _) _) _)
  have HXT : Hid (BoxAt WT w.heap.size (codCells c ⟨a1, b1, a2, b2, a3, b3⟩) 26) := Lib.hid (by rw [hWT]; exact blk_alloc (blk_alloc HX.out _) _)
  have HKT : Hid (BoxAt WT (w2.heap.size + 1) kindCells 54) := Lib.hid (by rw [hWT]; have := heap_alloc_new (w2.alloc (.cells kindCells 54)) (.cells kindCells 54); simpa [BoxAt] using this)
  obtain ⟨P, hP⟩ : ∃ P : Nat, c.procs = (P : Int) := ⟨c.procs.toNat, by
    have := HV.out.coded
    unfold codedB at this
    simp only [Bool.and_eq_true_iff, decide_eq_true_iff] at this
    omega⟩
  have HPE := Lib.hid hP
  have hPl : P ≤ 200 := by have := HV.out.lim; omega
  have HPL := Lib.hid hPl
  have hmk : ∀ W : World, (Instr.makeSlice 29 (.int .i64 (P : Int)) (.int .i64 (P : Int))).run Try.prog W = .ok (.slice (some ⟨W.heap.size, 0, none⟩) P P) (W.alloc (.cells (madeCells #[.int .i64 0] P) 3)) := fun W => by
    have h := print_make 29 3 .i64 8 Try.underlying29 PO.info3 (by omega) P (by omega) W
    simpa using h
  have hf2 : (WT.alloc (.cells (madeCells #[.int .i64 0] P) 3)).cell? ⟨w.heap.size, 2, none⟩ = some (.slice a2 c.ops.length b2) := (blk_cell (blk_alloc HXT.out _) 2).trans rfl
  have hf4 : WT.cell? ⟨w.heap.size, 4, none⟩ = some (.int .i64 P) := (blk_cell HXT.out 4).trans (by rw [← hP]; rfl)
  clear hP hPl
  go_wp2_with (first | (refine wpList_store_table rfl 54 (.tmp 6) (.tmp 19) rfl (w2.alloc (.cells kindCells 54)) (w2.heap.size + 1) (by simp) kindCells Try.zeroCells54 54 rfl ?h5 ?h6 ?h1 ?h2 ?h3 ?_; (case h1 => kernel_rfl); (case h2 => kernel_rfl); (case h3 => kernel_rfl); (case h5 => rfl); (case h6 => kernel_rfl); rw [← hWT]; clear hWT))
  have hdl := depthsL_len c.ops 0
  have hDB : ∀ x ∈ depthsL c.ops 0, 0 ≤ x ∧ x ≤ 4000 := by have := depths_bd c.ops.length c.ops (placR c).1 0 0 (by omega) (by omega) (by omega) HV.out.stacked; rwa [List.drop_zero] at this
  have HDB := Lib.hid hDB
  have HDL := Lib.hid hdl
  clear hf2 hf4 hmk hdl hDB HB HX HD
  have HRL : Hid (Kd.R (Kd.int .i64) 3 (WT.alloc (.cells (madeCells #[.int .i64 0] P) 3)) w.heap.size (fun _ => True) (.slice (some ⟨WT.heap.size, 0, none⟩) P P) (List.replicate P 0)) := Lib.hid (Kd.R_of_own (enc := Value.int .i64) (h1 := fun _ => rfl) (by rw [List.length_replicate]; exact own_made WT w.heap.size 3 .i64 P HBT.out.size (by have := HPL.out; omega)) (fun _ _ => trivial))
  have HGS : Hid (w2.heap.size ≤ WT.heap.size ∧ w.heap.size ≤ WT.heap.size) := Lib.hid ⟨HST.out.size, HBT.out.size⟩
  have HBL := Lib.hid (below_alloc HBT.out (.cells (madeCells #[.int .i64 0] P) 3))
  have HSL := Lib.hid (below_alloc HST.out (.cells (madeCells #[.int .i64 0] P) 3))
  have HXL := Lib.hid (blk_alloc HXT.out (.cells (madeCells #[.int .i64 0] P) 3))
  have HKL := Lib.hid (blk_alloc HKT.out (.cells (madeCells #[.int .i64 0] P) 3))
  clear HBT HST HXT HKT
  generalize (WT.alloc (.cells (madeCells #[.int .i64 0] P) 3)) = WL at *
  generalize WT.heap.size = G at *
  generalize w2.heap.size + 1 = B at *
  generalize depthsL c.ops 0 = D at *
  have HO := Lib.hid HF.out.o
  go_loopw [8, 26] (fun v8 v26 wr => ∃ (k : Nat) (p : Int) (out : List Int), k ≤ c.ops.length ∧ v8 = .int .i64 p ∧ v26 = .int .i64 k ∧ Hid (roomL c.ops D 0 (List.replicate P 0) = roomL (c.ops.drop k) (D.drop k) p out) ∧ Hid (out.length = P) ∧ Hid (k = 0 ∨ (1 ≤ p ∧ p ≤ P)) ∧ Hid (Kd.R (Kd.int .i64) 3 wr w.heap.size (fun _ => True) (.slice (some ⟨G, 0, none⟩) P P) out) ∧ Hid (BoxAt wr w.heap.size (codCells c ⟨a1, b1, a2, b2, a3, b3⟩) 26) ∧ Hid (BoxAt wr B kindCells 54) ∧ Hid (Below w.heap.size w wr) ∧ Hid (Below w2.heap.size w2 wr)) (fun _ i _ => c.ops.length - (intOf i).toNat)
  case atStart => exact ⟨0, 0, List.replicate P 0, by omega, rfl, rfl, Lib.hid rfl, Lib.hid (List.length_replicate ..), Lib.hid (.inl rfl), HRL, HXL, HKL, HBL, HSL⟩
  case round =>
    clear HRL HXL HKL HBL HSL
    obtain ⟨k, p, out, hk, rfl, rfl, HA, HL, HPP, HR, HX, HK, HB, HS⟩ := hrel
    by_cases hlt : k < c.ops.length
    · obtain ⟨o, ho⟩ : ∃ o, o = opAt c.ops k := ⟨_, rfl⟩
      obtain ⟨ad, had, hx0, hx1, hx2⟩ := op_cells (H.out.below HB.out).h2 k hlt o ho 0 rfl
      have HOP : Hid (opOk c o = true) := Lib.hid (by rw [ho, op_get _ _ hlt]; exact List.all_eq_true.1 HV.out.st.ops _ (List.getElem_mem hlt))
      have hDk : k < D.length := by have := HDL.out; omega
      obtain ⟨d, hd⟩ : ∃ d, d = rd D (k : Int) := ⟨_, rfl⟩
      have HDD : Hid (0 ≤ d ∧ d ≤ 4000) := Lib.hid (by rw [hd]; unfold rd; rw [Int.toNat_natCast, List.getD_eq_getElem?_getD, List.getElem?_eq_getElem hDk, Option.getD_some]; exact HDB.out _ (List.getElem_mem hDk))
      have HRM : Hid (roomL c.ops D 0 (List.replicate P 0) = roomL (c.ops.drop (k + 1)) (D.drop (k + 1)) (roomP o p) (room2 o d (roomP o p) (room1 o d (roomP o p) out))) := Lib.hid (by
        rw [HA.out, drop_opAt _ _ hlt, ← ho, List.drop_eq_getElem_cons hDk, roomL]
        have e : D[k] = d := by rw [hd]; unfold rd; rw [Int.toNat_natCast, List.getD_eq_getElem?_getD, List.getElem?_eq_getElem hDk, Option.getD_some]
        rw [e])
      obtain ⟨ad0, had0, hz⟩ := Kd.at_int HC0.out (k : Int) (by omega) (by omega)
      rw [← hd, Int.toNat_natCast] at hz
      have HDC : Hid (∀ W, Below w2.heap.size w2 W → W.cell? (ad0.add k) = some (.int .i64 d)) := Lib.hid (fun W hW => (hW.cell (World.block_lt_of_cell? w2 _ hz)).trans hz)
      have HP2 : Hid (1 ≤ roomP o p ∧ roomP o p ≤ P) := Lib.hid (by
        unfold roomP
        by_cases h24 : o.f0 = 24
        · rw [if_pos h24]
          have := enter_ok HOP.out h24
          have := HPE.out
          omega
        · rw [if_neg h24]
          rcases HPP.out with h0 | h0
          · subst h0
            exact absurd (ho ▸ first_enter HV.out.st.ord (by omega)) h24
          · exact h0)
      obtain ⟨N, hN⟩ : ∃ N : Nat, o.f0 = N := ⟨o.f0.toNat, by have := of_decide_eq_true (and2 (and2 HOP.out).1).1; omega⟩
      have hN31 : N < 31 := by have := of_decide_eq_true (and2 (and2 HOP.out).1).2; omega
      have hN31i : (N : Int) < 31 := by omega
      obtain ⟨f0, f1, f2⟩ := o
      change f0 = N at hN
      subst hN
      clear ho hd hz
      change a2 = some ad at had
      subst had
      subst had0
      have hxx0 : wr.cell? (ad.add (k * 3)) = some (.int .i64 N) := hx0
      have hxx1 : wr.cell? ⟨(ad.add (k * 3)).block, (ad.add (k * 3)).off + 1, none⟩ = some (.int .i64 f1) := hx1
      have hxx2 : wr.cell? ⟨(ad.add (k * 3)).block, (ad.add (k * 3)).off + 2, none⟩ = some (.int .i64 f2) := hx2
      clear hx0 hx1 hx2
      have hOO := HO.out
      have hopS := op_small HOP.out HV.out.st.p HV.out.st.cd.l HV.out.fine.d
      have HKS := Lib.hid (kind_small N hN31)
      have HOS := Lib.hid hopS
      clear hopS
      have hy0 : (wr.alloc (.cells #[.int .i64 N, .int .i64 f1, .int .i64 f2] 35)).cell? ⟨wr.heap.size, 0, none⟩ = some (.int .i64 N) := (blk_cell (heap_alloc_new wr _) 0).trans rfl
      have HDK := Lib.hid hDk
      clear hDk
      go_upto_if 33 with (fail)
      have HR7 : Hid (Rd w w2 c ⟨a1, b1, some ad, b2, a3, b3⟩ B wr.heap.size ⟨N, f1, f2⟩ (wr.alloc (.cells #[.int .i64 N, .int .i64 f1, .int .i64 f2] 35))) := Lib.hid ⟨blk_alloc HX.out _, heap_alloc_new wr _, blk_alloc HK.out _, below_alloc HB.out _, below_alloc HS.out _⟩
      have HRR := Lib.hid (Kd.R_alloc HR.out (.cells #[.int .i64 N, .int .i64 f1, .int .i64 f2] 35))
      clear HX HK HB HR HS hxx0 hxx1 hxx2 hy0
      generalize wr.heap.size = g at *
      generalize (wr.alloc (.cells #[.int .i64 N, .int .i64 f1, .int .i64 f2] 35)) = wq at *
      go_cut [8] (fun v8 wc => v8 = .int .i64 (roomP ⟨N, f1, f2⟩ p) ∧ Hid (Rd w w2 c ⟨a1, b1, some ad, b2, a3, b3⟩ B g ⟨N, f1, f2⟩ wc) ∧ Hid (Kd.R (Kd.int .i64) 3 wc w.heap.size (fun _ => True) (.slice (some ⟨G, 0, none⟩) P P) (room1 ⟨N, f1, f2⟩ d (roomP ⟨N, f1, f2⟩ p) out)))
      case first =>
        by_cases h24 : (N : Int) = 24
        · have hb : ((N : Int) == 24) = true := beq_iff_eq.2 h24
          have HJ : Hid (roomP ⟨N, f1, f2⟩ p = f1 ∧ room1 ⟨N, f1, f2⟩ d (roomP ⟨N, f1, f2⟩ p) out = out) := Lib.hid ⟨by unfold roomP; exact if_pos h24, by unfold room1; exact if_pos h24⟩
          obtain ⟨y0, y1, y2, c2⟩ := HR7.out.cells
          clear h24
          go_wp2_with fail
          go_meet
          case rel => exact ⟨by rw [HJ.out.1], HR7, Lib.hid (by rw [HJ.out.2]; exact HRR.out)⟩
        · have hb : ((N : Int) == 24) = false := beq_eq_false_iff_ne.2 h24
          have HJ : Hid (roomP ⟨N, f1, f2⟩ p = p ∧ room1 ⟨N, f1, f2⟩ d (roomP ⟨N, f1, f2⟩ p) out = out.set (p - 1).toNat (mx (rd out (p - 1)) d)) := Lib.hid (by
            have e : roomP ⟨N, f1, f2⟩ p = p := by unfold roomP; exact if_neg h24
            exact ⟨e, by rw [e]; unfold room1; exact if_neg h24⟩)
          clear h24
          have hp := HP2.out
          rw [HJ.out.1] at hp
          obtain ⟨hp1, hp2⟩ := hp
          have hp3 : 0 ≤ p - 1 := by omega
          have hp4 : p - 1 < (P : Int) := by omega
          have hd1 : (k : Int) < (D.length : Int) := by have := HDK.out; omega
          have hzc := Kd.R_celln (enc := Value.int .i64) (0 : Int) HRR.out (p - 1) hp3 hp4
          rw [show (p - 1).toNat = p.toNat - 1 by omega] at hzc
          have hz1 : wq.cell? ⟨G, p.toNat - 1, none⟩ = some (.int .i64 (rd out (p - 1))) := hzc.1
          have hz3 := hzc.2
          have hz4 := HDC.out wq HR7.out.s
          have hPL := HPL.out
          have hwp : IntKind.i64.wrap (p - 1) = p - 1 := IntWalk.i64_in _ (by omega)
          have hmx : (if rd out (p - 1) < d then d else rd out (p - 1)) = mx (rd out (p - 1)) d := rfl
          clear hzc
          go_wp2_with fail
          go_still_tail 14, (by kernel_rfl)
          change wpList _ _ _ _ _ wq.drew
          go_wp2_with fail
          clear hwp
          have HPUT := Lib.hid (HR7.out.put HRR.out HGS.out.1 HGS.out.2 (p - 1) (mx (rd out (p - 1)) d) (p.toNat - 1) (by omega))
          go_meet
          case rel => exact ⟨by rw [HJ.out.1], Lib.hid HPUT.out.1.drew, Lib.hid (by rw [HJ.out.2]; exact Kd.R_drew HPUT.out.2)⟩
      case rest =>
        clear HR7 HRR
        obtain ⟨rfl, HR8, HRR2⟩ := hcut
        have HLN : Hid ((room1 ⟨N, f1, f2⟩ d (roomP ⟨N, f1, f2⟩ p) out).length = P) := Lib.hid (by rw [room1_len, HL.out])
        have HRM2 : Hid (roomL c.ops D 0 (List.replicate P 0) = roomL (c.ops.drop (k + 1)) (D.drop (k + 1)) (roomP ⟨N, f1, f2⟩ p) ((room1 ⟨N, f1, f2⟩ d (roomP ⟨N, f1, f2⟩ p) out).set (roomP ⟨N, f1, f2⟩ p - 1).toNat (mx (rd (room1 ⟨N, f1, f2⟩ d (roomP ⟨N, f1, f2⟩ p) out) (roomP ⟨N, f1, f2⟩ p - 1)) (afterI ⟨N, f1, f2⟩ d (kindAt N))))) := Lib.hid (by rw [HRM.out]; rfl)
        clear HRM
        generalize room1 ⟨N, f1, f2⟩ d (roomP ⟨N, f1, f2⟩ p) out = out1 at *
        generalize roomP ⟨N, f1, f2⟩ p = p1 at *
        obtain ⟨hp1, hp2⟩ := HP2.out
        have hp3 : 0 ≤ p1 - 1 := by omega
        have hp4 : p1 - 1 < (P : Int) := by omega
        have hd1 : (k : Int) < (D.length : Int) := by have := HDK.out; omega
        have hzc := Kd.R_celln (enc := Value.int .i64) (0 : Int) HRR2.out (p1 - 1) hp3 hp4
        rw [show (p1 - 1).toNat = p1.toNat - 1 by omega] at hzc
        have hz1 : wc.cell? ⟨G, p1.toNat - 1, none⟩ = some (.int .i64 (rd out1 (p1 - 1))) := hzc.1
        have hz3 := hzc.2
        have hz4 := HDC.out wc HR8.out.s
        have hPL := HPL.out
        obtain ⟨k0, k1, k2, k3⟩ := kindCell N hN31 wc B HR8.out.k
        obtain ⟨y0, y1, y2, c2⟩ := HR8.out.cells
        have hwp : IntKind.i64.wrap (p1 - 1) = p1 - 1 := IntWalk.i64_in _ (by omega)
        clear hzc
        have HTN : Hid ((p1 - 1).toNat = p1.toNat - 1) := Lib.hid (by clear hwp; omega)
        go_wp2_with fail
        refine start_ (n := 21) (S := fun w' => w'.cell? ⟨G, p1.toNat - 1, none⟩ = some (.int .i64 (rd out1 (p1 - 1))) ∧ w'.cell? ⟨g, 0, none⟩ = some (.int .i64 N) ∧ w'.cell? ⟨g, 1, none⟩ = some (.int .i64 f1) ∧ w'.cell? ⟨g, 2, none⟩ = some (.int .i64 f2) ∧ w'.cell? ⟨B, N * 4, none⟩ = some (.string (kindAt N).f0) ∧ w'.cell? ⟨B, N * 4 + 1, none⟩ = some (.int .i64 (kindAt N).f1) ∧ w'.cell? ⟨B, N * 4 + 2, none⟩ = some (.int .i64 (kindAt N).f2) ∧ w'.cell? ⟨B, N * 4 + 3, none⟩ = some (.int .i64 (kindAt N).f3) ∧ w'.cell? (ad0.add k) = some (.int .i64 d)) (ds := [20]) #[false, false, false, false, false, false, false, false, false, false, false, false, false, false, false, false, false, false, false, false, false] (by kernel_rfl) rfl rfl ⟨hz1, y0, y1, y2, k0, k1, k2, k3, hz4⟩ (fun hHeld => ?_)
        refine pure_ (i := 0) (N := some 50) (v := ?_) (a' := ?_) #[true, false, false, false, false, false, false, false, false, false, false, false, false, false, false, false, false, false, false, false, false] rfl rfl (by kernel_rfl) (fun _ _ _ h => h) (Or.inl ⟨by rfl, ?_⟩) ?_ ?_
        rotate_left
        · intro w'
          go_simp
          with_reducible rfl
        rotate_left
        · simp only [Act.put, List.setIfInBounds_toArray, List.set_cons_zero, List.set_cons_succ, i64_w, i32_w]
          rfl
        refine pure_ (i := 1) (N := some 51) (v := ?_) (a' := ?_) #[true, true, false, false, false, false, false, false, false, false, false, false, false, false, false, false, false, false, false, false, false] rfl rfl (by kernel_rfl) (fun _ _ _ h => h) (Or.inl ⟨by rfl, ?_⟩) ?_ ?_
        rotate_left
        · intro w'
          go_simp
          with_reducible rfl
        rotate_left
        · simp only [Act.put, List.setIfInBounds_toArray, List.set_cons_zero, List.set_cons_succ, i64_w, i32_w]
          rfl
        refine pure_ (i := 2) (N := some 52) (v := ?_) (a' := ?_) #[true, true, true, false, false, false, false, false, false, false, false, false, false, false, false, false, false, false, false, false, false] rfl rfl (by kernel_rfl) (fun _ _ _ h => h) (Or.inl ⟨by rfl, ?_⟩) ?_ ?_
        rotate_left
        · intro w'
          go_simp
          with_reducible rfl
        rotate_left
        · simp only [Act.put, List.setIfInBounds_toArray, List.set_cons_zero, List.set_cons_succ, i64_w, i32_w]
          rfl
        refine pure_ (i := 3) (N := some 53) (v := ?_) (a' := ?_) #[true, true, true, true, false, false, false, false, false, false, false, false, false, false, false, false, false, false, false, false, false] rfl rfl (by kernel_rfl) (fun _ _ _ h => h) (Or.inl ⟨by rfl, ?_⟩) ?_ ?_
        rotate_left
        · intro w'
          go_simp
          with_reducible rfl
        rotate_left
        · simp only [Act.put, List.setIfInBounds_toArray, List.set_cons_zero, List.set_cons_succ, i64_w, i32_w]
          rfl
        refine pure_ (i := 4) (N := some 54) (v := ?_) (a' := ?_) #[true, true, true, true, true, false, false, false, false, false, false, false, false, false, false, false, false, false, false, false, false] rfl rfl (by kernel_rfl) (fun _ _ _ h => h) (Or.inl ⟨by rfl, ?_⟩) ?_ ?_
        rotate_left
        · intro w'
          go_simp
          with_reducible rfl
        rotate_left
        · simp only [Act.put, List.setIfInBounds_toArray, List.set_cons_zero, List.set_cons_succ, i64_w, i32_w]
          rfl
        refine pure_ (i := 5) (N := some 55) (v := ?_) (a' := ?_) #[true, true, true, true, true, true, false, false, false, false, false, false, false, false, false, false, false, false, false, false, false] rfl rfl (by kernel_rfl) (fun _ _ _ h => h) (Or.inl ⟨by rfl, ?_⟩) ?_ ?_
        rotate_left
        · intro w'
          go_simp
          with_reducible rfl
        rotate_left
        · simp only [Act.put, List.setIfInBounds_toArray, List.set_cons_zero, List.set_cons_succ, i64_w, i32_w]
          rfl
        refine pure_ (i := 6) (N := some 56) (v := ?_) (a' := ?_) #[true, true, true, true, true, true, true, false, false, false, false, false, false, false, false, false, false, false, false, false, false] rfl rfl (by kernel_rfl) (fun _ _ _ h => h) (Or.inl ⟨by rfl, ?_⟩) ?_ ?_
        rotate_left
        · intro w'
          go_simp
          with_reducible rfl
        rotate_left
        · simp only [Act.put, List.setIfInBounds_toArray, List.set_cons_zero, List.set_cons_succ, i64_w, i32_w]
          rfl
        refine pure_ (i := 9) (N := some 59) (v := ?_) (a' := ?_) #[true, true, true, true, true, true, true, false, false, true, false, false, false, false, false, false, false, false, false, false, false] rfl rfl (by kernel_rfl) (fun _ _ _ h => h) (Or.inl ⟨by rfl, ?_⟩) ?_ ?_
        rotate_left
        · intro w'
          go_simp
          with_reducible rfl
        rotate_left
        · simp only [Act.put, List.setIfInBounds_toArray, List.set_cons_zero, List.set_cons_succ, i64_w, i32_w]
          rfl
        refine pure_ (i := 10) (N := some 60) (v := ?_) (a' := ?_) #[true, true, true, true, true, true, true, false, false, true, true, false, false, false, false, false, false, false, false, false, false] rfl rfl (by kernel_rfl) (fun _ _ _ h => h) (Or.inl ⟨by rfl, ?_⟩) ?_ ?_
        rotate_left
        · intro w'
          go_simp
          with_reducible rfl
        rotate_left
        · simp only [Act.put, List.setIfInBounds_toArray, List.set_cons_zero, List.set_cons_succ, i64_w, i32_w]
          rfl
        refine pure_ (i := 11) (N := some 61) (v := ?_) (a' := ?_) #[true, true, true, true, true, true, true, false, false, true, true, true, false, false, false, false, false, false, false, false, false] rfl rfl (by kernel_rfl) (fun _ _ _ h => h) (Or.inl ⟨by rfl, ?_⟩) ?_ ?_
        rotate_left
        · intro w'
          go_simp
          with_reducible rfl
        rotate_left
        · simp only [Act.put, List.setIfInBounds_toArray, List.set_cons_zero, List.set_cons_succ, i64_w, i32_w]
          rfl
        refine pure_ (i := 13) (N := some 63) (v := ?_) (a' := ?_) #[true, true, true, true, true, true, true, false, false, true, true, true, false, true, false, false, false, false, false, false, false] rfl rfl (by kernel_rfl) (fun _ _ _ h => h) (Or.inl ⟨by rfl, ?_⟩) ?_ ?_
        rotate_left
        · intro w'
          go_simp
          with_reducible rfl
        rotate_left
        · simp only [Act.put, List.setIfInBounds_toArray, List.set_cons_zero, List.set_cons_succ, i64_w, i32_w]
          rfl
        refine take_ (i := 7) (N := some 57) (v := ?_) (a' := ?_) #[true, true, true, true, true, true, true, true, false, true, true, true, false, true, false, false, false, false, false, false, false] rfl rfl (by kernel_rfl) (fun _ _ _ h => h) (Or.inl ⟨by rfl, ?_⟩) hHeld ?_ ?_
        rotate_left
        · rintro w' ⟨s0, s1, s2, s3, s4, s5, s6, s7, s8⟩
          go_simp
          with_reducible rfl
        rotate_left
        · simp only [Act.put, List.setIfInBounds_toArray, List.set_cons_zero, List.set_cons_succ, i64_w, i32_w]
          rfl
        refine take_ (i := 8) (N := some 58) (v := ?_) (a' := ?_) #[true, true, true, true, true, true, true, true, true, true, true, true, false, true, false, false, false, false, false, false, false] rfl rfl (by kernel_rfl) (fun _ _ _ h => h) (Or.inl ⟨by rfl, ?_⟩) hHeld ?_ ?_
        rotate_left
        · rintro w' ⟨s0, s1, s2, s3, s4, s5, s6, s7, s8⟩
          go_simp
          with_reducible rfl
        rotate_left
        · simp only [Act.put, List.setIfInBounds_toArray, List.set_cons_zero, List.set_cons_succ, i64_w, i32_w]
          rfl
        refine take_ (i := 12) (N := some 62) (v := ?_) (a' := ?_) #[true, true, true, true, true, true, true, true, true, true, true, true, true, true, false, false, false, false, false, false, false] rfl rfl (by kernel_rfl) (fun _ _ _ h => h) (Or.inl ⟨by rfl, ?_⟩) hHeld ?_ ?_
        rotate_left
        · rintro w' ⟨s0, s1, s2, s3, s4, s5, s6, s7, s8⟩
          go_simp
          with_reducible rfl
        rotate_left
        · simp only [Act.put, List.setIfInBounds_toArray, List.set_cons_zero, List.set_cons_succ, i64_w, i32_w]
          rfl
        refine take_ (i := 14) (N := some 64) (v := ?_) (a' := ?_) #[true, true, true, true, true, true, true, true, true, true, true, true, true, true, true, false, false, false, false, false, false] rfl rfl (by kernel_rfl) (fun _ _ _ h => h) (Or.inl ⟨by rfl, ?_⟩) hHeld ?_ ?_
        rotate_left
        · rintro w' ⟨s0, s1, s2, s3, s4, s5, s6, s7, s8⟩
          go_simp
          with_reducible rfl
        rotate_left
        · simp only [Act.put, List.setIfInBounds_toArray, List.set_cons_zero, List.set_cons_succ, i64_w, i32_w]
          rfl
        refine pure_ (i := 15) (N := some 65) (v := ?_) (a' := ?_) #[true, true, true, true, true, true, true, true, true, true, true, true, true, true, true, true, false, false, false, false, false] rfl rfl (by kernel_rfl) (fun _ _ _ h => h) (Or.inl ⟨by rfl, ?_⟩) ?_ ?_
        rotate_left
        · intro w'
          go_simp
          with_reducible rfl
        rotate_left
        · simp only [Act.put, List.setIfInBounds_toArray, List.set_cons_zero, List.set_cons_succ, i64_w, i32_w]
          rfl
        refine take_ (i := 16) (N := some 66) (v := ?_) (a' := ?_) #[true, true, true, true, true, true, true, true, true, true, true, true, true, true, true, true, true, false, false, false, false] rfl rfl (by kernel_rfl) (fun _ _ _ h => h) (Or.inl ⟨by rfl, ?_⟩) hHeld ?_ ?_
        rotate_left
        · rintro w' ⟨s0, s1, s2, s3, s4, s5, s6, s7, s8⟩
          go_simp
          with_reducible rfl
        rotate_left
        · simp only [Act.put, List.setIfInBounds_toArray, List.set_cons_zero, List.set_cons_succ, i64_w, i32_w]
          rfl
        refine one_ (i := 17) (N := some 67) #[true, true, true, true, true, true, true, true, true, true, true, true, true, true, true, true, true, true, false, false, false] rfl rfl (by kernel_rfl) (by decide) (fun K hK => ?_)
        refine goes_ Try.func37 (by kernel_rfl) rfl #[.agg #[.int .i64 N, .int .i64 f1, .int .i64 f2], .int .i64 d, .agg #[.string (kindAt N).f0, .int .i64 (kindAt N).f1, .int .i64 (kindAt N).f2, .int .i64 (kindAt N).f3]] (by rfl) rfl rfl (by simp only [List.map_toArray, List.map_cons, List.map_nil]; rfl) ?_
        refine (after_calls ⟨N, f1, f2⟩ d (kindAt N) _ HOS.out.1 HOS.out.2 (by have := HDD.out; unfold Small; omega) HKS.out.1 HKS.out.2).mono ?_
        rintro e w8 ⟨rfl, hb⟩
        refine ⟨_, rfl, ?_⟩
        have HR10 := Lib.hid (HR8.out.drew.step hb)
        have HRR4 := Lib.hid (Kd.R_below (Kd.R_drew HRR2.out) hb)
        have hzf := (Kd.R_celln (enc := Value.int .i64) (0 : Int) HRR4.out (p1 - 1) hp3 hp4).2
        rw [HTN.out] at hzf
        refine hK.out _ _ ⟨(hb.cell (World.block_lt_of_cell? _ _ (hHeld.1))).trans (hHeld.1), (hb.cell (World.block_lt_of_cell? _ _ (hHeld.2.1))).trans (hHeld.2.1), (hb.cell (World.block_lt_of_cell? _ _ (hHeld.2.2.1))).trans (hHeld.2.2.1), (hb.cell (World.block_lt_of_cell? _ _ (hHeld.2.2.2.1))).trans (hHeld.2.2.2.1), (hb.cell (World.block_lt_of_cell? _ _ (hHeld.2.2.2.2.1))).trans (hHeld.2.2.2.2.1), (hb.cell (World.block_lt_of_cell? _ _ (hHeld.2.2.2.2.2.1))).trans (hHeld.2.2.2.2.2.1), (hb.cell (World.block_lt_of_cell? _ _ (hHeld.2.2.2.2.2.2.1))).trans (hHeld.2.2.2.2.2.2.1), (hb.cell (World.block_lt_of_cell? _ _ (hHeld.2.2.2.2.2.2.2.1))).trans (hHeld.2.2.2.2.2.2.2.1), (hb.cell (World.block_lt_of_cell? _ _ (hHeld.2.2.2.2.2.2.2.2))).trans (hHeld.2.2.2.2.2.2.2.2)⟩ (fun hHeld => ?_)
        clear hK K
        refine norm_ (a' := ?_) ?_ ?_
        rotate_left
        · show Act.put _ (some 67) _ = _
          simp only [Act.put, List.setIfInBounds_toArray, List.set_cons_zero, List.set_cons_succ, i64_w, i32_w]
          rfl
        refine pure_ (i := 18) (N := some 68) (v := ?_) (a' := ?_) #[true, true, true, true, true, true, true, true, true, true, true, true, true, true, true, true, true, true, true, false, false] rfl rfl (by kernel_rfl) (fun _ _ _ h => h) (Or.inl ⟨by rfl, ?_⟩) ?_ ?_
        rotate_left
        · intro w'
          go_simp
          with_reducible rfl
        rotate_left
        · simp only [Act.put, List.setIfInBounds_toArray, List.set_cons_zero, List.set_cons_succ, i64_w, i32_w]
          rfl
        refine pure_ (i := 19) (N := some 69) (v := ?_) (a' := ?_) #[true, true, true, true, true, true, true, true, true, true, true, true, true, true, true, true, true, true, true, true, false] rfl rfl (by kernel_rfl) (fun _ _ _ h => h) (Or.inl ⟨by rfl, ?_⟩) ?_ ?_
        rotate_left
        · intro w'
          go_simp
          with_reducible rfl
        rotate_left
        · simp only [Act.put, List.setIfInBounds_toArray, List.set_cons_zero, List.set_cons_succ, i64_w, i32_w]
          rfl
        refine last_ (i := 20) (N := none) #[true, true, true, true, true, true, true, true, true, true, true, true, true, true, true, true, true, true, true, true, true] rfl rfl (by kernel_rfl) (by decide) (fun K hK => ?_)
        refine skip_ (w1 := ?_) (by rfl) rfl ?_ ?_
        rotate_left
        · go_simp
          rfl
        refine hK.out _ _ ?_
        clear hK K
        refine done_ (by kernel_rfl) ?_

        go_wp2_with fail
        clear hwp
        have HPUT := Lib.hid (HR10.out.put HRR4.out HGS.out.1 HGS.out.2 (p1 - 1) (mx (rd out1 (p1 - 1)) (afterI ⟨N, f1, f2⟩ d (kindAt N))) (p1.toNat - 1) HTN.out)
        go_roundw
        case rel => exact ⟨k + 1, p1, _, by omega, rfl, by go_num, HRM2, Lib.hid (by rw [List.length_set]; exact HLN.out), Lib.hid (.inr ⟨hp1, hp2⟩), Lib.hid HPUT.out.2, Lib.hid HPUT.out.1.x, Lib.hid HPUT.out.1.k, Lib.hid HPUT.out.1.b, Lib.hid HPUT.out.1.s⟩
        case measure => simp [intOf]; omega
    · obtain rfl : k = c.ops.length := by omega
      rw [List.drop_length] at HA
      go_wp2_with fail
      go_ret2
      rw [HN.out]
      refine ⟨_, rfl, ?_, HB.out⟩
      rw [show roomL c.ops D 0 (List.replicate c.procs.toNat 0) = out by rw [HPE.out, Int.toNat_natCast, HA.out, roomL]]
      exact HR.out
end Go.Proofs.Ytkmcanknbdaliaa.Lx
namespace Go.Proofs.Ytkmcanknbdaliaa.PO
open Go Go.RowKit Go.Proofs.YtkmcanknbdaliaaW.PrintWords Go.Proofs.YtkmcanknbdaliaaW.PrintLast Go.Proofs.YtkmcanknbdaliaaW.PrintMore Go.Proofs.Ytkmcanknbdaliaa.Lx
def ocode_Room.f (a0_0 : ByteArray) (l0_1 : List S47) (l0_2 : List S35) (l0_3 : List S68) (a0_4 : Int) (a0_5 : Int) : Option (List Int × Int) :=
  if fineB ⟨a0_0, l0_1, l0_2, l0_3, a0_4, a0_5⟩ = true then some (roomR ⟨a0_0, l0_1, l0_2, l0_3, a0_4, a0_5⟩) else none
theorem ocode_Room.calls (a0_0 : ByteArray) (A0_1 : Option Addr) (c0_1 : Nat) (l0_1 : List S47) (A0_2 : Option Addr) (c0_2 : Nat) (l0_2 : List S35) (A0_3 : Option Addr) (c0_3 : Nat) (l0_3 : List S68) (a0_4 : Int) (a0_5 : Int) (r1 : List Int) (r2 : Int) (w : World) (hr0_1 : Kd.C k47 w A0_1 l0_1.length l0_1) (hc0_1 : l0_1.length ≤ c0_1) (hr0_2 : Kd.C k35 w A0_2 l0_2.length l0_2) (hc0_2 : l0_2.length ≤ c0_2) (hr0_3 : Kd.C k68 w A0_3 l0_3.length l0_3) (hc0_3 : l0_3.length ≤ c0_3) (h : ocode_Room.f a0_0 l0_1 l0_2 l0_3 a0_4 a0_5 = some (r1, r2)) :
    Calls Try.prog 18 #[.agg #[.string a0_0, .slice A0_1 l0_1.length c0_1, .slice A0_2 l0_2.length c0_2, .slice A0_3 l0_3.length c0_3, .int .i64 a0_4, .int .i64 a0_5]] w fun e w' => ∃ v0_ : Value, e = .returned (.tuple #[v0_, .int .i64 r2]) ∧ Kd.R (Kd.int .i64) 3 w' w.heap.size (fun _ => True) v0_ r1 ∧ Below w.heap.size w w' := by
  unfold ocode_Room.f at h
  by_cases g : fineB ⟨a0_0, l0_1, l0_2, l0_3, a0_4, a0_5⟩ = true
  · rw [if_pos g] at h
    injection h with h
    have q := room_calls ⟨a0_0, l0_1, l0_2, l0_3, a0_4, a0_5⟩ ⟨A0_1, c0_1, A0_2, c0_2, A0_3, c0_3⟩ w ⟨hr0_1, hc0_1, hr0_2, hc0_2, hr0_3, hc0_3⟩ ((fine_iff _).1 g)
    rw [h] at q
    exact q
  · rw [if_neg g] at h
    exact absurd h (by simp)
end Go.Proofs.Ytkmcanknbdaliaa.PO
