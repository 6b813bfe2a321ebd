/- The reference's look at areas and entries is the program's. -/
import Derived.Test.YtkmcanknbdaliaaQChecksRefNum
import Derived.Test.YtkmcanknbdaliaaQChecksRefQuote
import Derived.Test.YtkmcanknbdaliaaQChecks4
namespace Go.Proofs.Ytkmcanknbdaliaa.Lx
open Go Go.RowKit Go.Proofs.YtkmcanknbdaliaaW.PrintWords Go.Proofs.YtkmcanknbdaliaaW.PrintLast Go.Proofs.YtkmcanknbdaliaaW.PrintMore Go.Proofs.Ytkmcanknbdaliaa.PO
theorem dropE2 (l : List S68) (k : Nat) (hk : k < l.length) : l.drop k = rd_T68 l (k : Int) :: l.drop (k + 1) := by
 rw [List.drop_eq_getElem_cons hk]
 congr 1
 simp [rd_T68, List.getD_eq_getElem?_getD, List.getElem?_eq_getElem hk]
theorem dropI2 (l : List Int) (k : Nat) (hk : k < l.length) : l.drop k = rd l (k : Int) :: l.drop (k + 1) := by
 rw [List.drop_eq_getElem_cons hk]
 congr 1
 unfold rd
 rw [Int.toNat_natCast, List.getD_eq_getElem?_getD, List.getElem?_eq_getElem hk, Option.getD_some]
theorem seen_take (l : List S68) (i : Nat) (hi : i < l.length) : (l.take (i + 1)).map (·.f0) = (l.take i).map (·.f0) ++ [(rd_T68 l (i : Int)).f0] := by
 rw [List.take_succ_eq_append_getElem hi, List.map_append]
 simp [rd_T68, List.getD_eq_getElem?_getD, List.getElem?_eq_getElem hi]
/-- The entries ahead of one: is its global among them. -/
theorem areas_l3 (c : Cod) (hg : c.gl.length ≤ 1000000) (i : Nat) (hi : i < c.gl.length) (g p : Int) (r : Bool) (K : Nat) (hr : ∀ k, K ≤ k → bluebellref06_areas.l2 k ((i + 1 : Nat) : Int) c.name c.data c.ops c.gl c.procs c.labels = some r) : ∀ (n j k : Nat), i - j = n → j ≤ i → n + K + 1 ≤ k →
  bluebellref06_areas.l3 k (i : Int) (j : Int) c.name c.data c.ops c.gl c.procs c.labels g p = some (!(((c.gl.take i).drop j).map (·.f0)).any (fun x => x == g) && r)
 | 0, j, k, hn, hj, hk => by
  obtain ⟨k, rfl⟩ : ∃ m, k = m + 1 := ⟨k - 1, by omega⟩
  simp only [bluebellref06_areas.l3]
  rw [if_neg (by omega), at_succ i (by omega), hr k (by omega), List.drop_eq_nil_of_le (by rw [List.length_take]; omega)]
  rfl
 | n + 1, j, k, hn, hj, hk => by
  obtain ⟨k, rfl⟩ : ∃ m, k = m + 1 := ⟨k - 1, by omega⟩
  have ih := areas_l3 c hg i hi g p r K hr n (j + 1) k (by omega) (by omega) (by omega)
  have hjl : j < (c.gl.take i).length := by rw [List.length_take]; omega
  have e : ((c.gl.take i).drop j).map (·.f0) = (rd_T68 c.gl (j : Int)).f0 :: ((c.gl.take i).drop (j + 1)).map (·.f0) := by
   rw [List.drop_eq_getElem_cons hjl, List.map_cons, List.getElem_take]
   congr 1
   have h2 : j < c.gl.length := by omega
   simp [rd_T68, List.getD_eq_getElem?_getD, List.getElem?_eq_getElem h2]
  rw [e, List.any_cons]
  simp only [bluebellref06_areas.l3]
  rw [if_pos (by omega), if_pos (by omega), if_pos (by omega), at_succ j (by omega), ih]
  by_cases q : (rd_T68 c.gl (j : Int)).f0 = g
  ·rw [if_pos q, beq_iff_eq.2 q]; rfl
  ·rw [if_neg q, beq_eq_false_iff_ne.2 q, Bool.false_or]
theorem areas_l2 (c : Cod) (hf : Fine c) : ∀ (n i : Nat), c.gl.length - i = n → i ≤ c.gl.length → ∃ K, ∀ k, K ≤ k →
  bluebellref06_areas.l2 k (i : Int) c.name c.data c.ops c.gl c.procs c.labels = some (entriesL (c.gl.drop i) ((c.gl.take i).map (·.f0)) c.procs && decide ((quoteR c.name).2 = 0))
 | 0, i, hn, hi => by
  refine ⟨2 * c.name.size + 3, fun k hk => ?_⟩
  obtain ⟨k, rfl⟩ : ∃ m, k = m + 1 := ⟨k - 1, by omega⟩
  have hnm := hf.n
  obtain ⟨r, hr⟩ := quote_ref c.name hf.n k (by omega)
  rw [List.drop_eq_nil_of_le (by omega), entriesL, Bool.true_and]
  simp only [bluebellref06_areas.l2]
  rw [if_neg (by omega), hr]
  rfl
 | n + 1, i, hn, hi => by
  have hg := hf.g
  have hlt : i < c.gl.length := by omega
  obtain ⟨K, ih⟩ := areas_l2 c hf n (i + 1) (by omega) (by omega)
  refine ⟨K + c.gl.length + 5, fun k hk => ?_⟩
  obtain ⟨k, rfl⟩ : ∃ m, k = m + 1 := ⟨k - 1, by omega⟩
  rw [dropE2 c.gl i hlt, entriesL]
  rw [seen_take c.gl i hlt] at ih
  simp only [bluebellref06_areas.l2]
  rw [if_pos (by omega), if_pos (by omega), in_ref, Option.bind_some]
  have hj : ∀ b : Bool, bluebellref06_areas.j4 k (i : Int) b c.name c.data c.ops c.gl c.procs c.labels (rd_T68 c.gl (i : Int)).f0 (rd_T68 c.gl (i : Int)).f1 = some (!b && (!((c.gl.take i).map (·.f0)).any (fun x => x == (rd_T68 c.gl (i : Int)).f0) && (entriesL (c.gl.drop (i + 1)) ((c.gl.take i).map (·.f0) ++ [(rd_T68 c.gl (i : Int)).f0]) c.procs && decide ((quoteR c.name).2 = 0)))) := by
   intro b
   obtain ⟨k, rfl⟩ : ∃ m, k = m + 1 := ⟨k - 1, by omega⟩
   simp only [bluebellref06_areas.j4]
   cases b with
   | true => rfl
   | false =>
    rw [if_neg (by decide)]
    have q := areas_l3 c hg i hlt (rd_T68 c.gl (i : Int)).f0 (rd_T68 c.gl (i : Int)).f1 _ K ih i 0 k (by omega) (by omega) (by omega)
    rw [List.drop_zero] at q
    exact q
  generalize rd_T68 c.gl (i : Int) = e at *
  cases h1 : inB e.f0 1 199 with
  | false => rw [if_neg (by decide), hj]; rfl
  | true =>
   rw [if_pos rfl, in_ref, Option.bind_some, hj]
   cases inB e.f1 1 c.procs <;> cases ((c.gl.take i).map (·.f0)).any (fun x => x == e.f0) <;> rfl
/-- The words of an area. -/
theorem areas_l1 (c : Cod) (i : Nat) (a : ByteArray) (b : Bool) (l : List Int) (hl : l.length ≤ 1000000) (r : Bool) (K : Nat) (hr : ∀ k, K ≤ k → bluebellref06_areas.l0 k (wrap64 ((i : Int) + 1)) c.name c.data c.ops c.gl c.procs c.labels = some r) : ∀ (n j k : Nat), l.length - j = n → j ≤ l.length → n + K + 1 ≤ k →
  bluebellref06_areas.l1 k (i : Int) (j : Int) c.name c.data c.ops c.gl c.procs c.labels a b l = some (!anyNarrow (l.drop j) && r)
 | 0, j, k, hn, hj, hk => by
  obtain ⟨k, rfl⟩ : ∃ m, k = m + 1 := ⟨k - 1, by omega⟩
  simp only [bluebellref06_areas.l1]
  rw [if_neg (by omega), hr k (by omega), List.drop_eq_nil_of_le (by omega)]
  rfl
 | n + 1, j, k, hn, hj, hk => by
  obtain ⟨k, rfl⟩ : ∃ m, k = m + 1 := ⟨k - 1, by omega⟩
  have ih := areas_l1 c i a b l hl r K hr n (j + 1) k (by omega) (by omega) (by omega)
  rw [dropI2 l j (by omega)]
  simp only [bluebellref06_areas.l1]
  rw [if_pos (by omega), if_pos (by omega), in_ref, Option.bind_some, at_succ j (by omega), ih]
  unfold anyNarrow
  rw [List.any_cons]
  change (if wideB (rd l (j : Int)) = true then _ else _) = _
  cases wideB (rd l (j : Int)) <;> rfl
theorem areas_l0 (c : Cod) (hf : Fine c) : ∀ (n i : Nat), c.data.length - i = n → i ≤ c.data.length → ∃ K, ∀ k, K ≤ k →
  bluebellref06_areas.l0 k (i : Int) c.name c.data c.ops c.gl c.procs c.labels = some ((c.data.drop i).all areaB && (entriesL c.gl [] c.procs && decide ((quoteR c.name).2 = 0)))
 | 0, i, hn, hi => by
  obtain ⟨K, ih⟩ := areas_l2 c hf c.gl.length 0 (by omega) (by omega)
  refine ⟨K + 1, fun k hk => ?_⟩
  obtain ⟨k, rfl⟩ : ∃ m, k = m + 1 := ⟨k - 1, by omega⟩
  have q := ih k (by omega)
  rw [show ((0 : Nat) : Int) = 0 from rfl, List.drop_zero, List.take_zero, List.map_nil] at q
  rw [List.drop_eq_nil_of_le (by omega)]
  simp only [bluebellref06_areas.l0]
  rw [if_neg (by omega), q]
  rfl
 | n + 1, i, hn, hi => by
  have hd := hf.d
  have hlt : i < c.data.length := by omega
  have hw := hf.w _ (rdD_mem c.data i hlt)
  obtain ⟨K, ih⟩ := areas_l0 c hf n (i + 1) (by omega) (by omega)
  refine ⟨K + (rd_T47 c.data (i : Int)).f2.length + 2 * (rd_T47 c.data (i : Int)).f0.size + 10, fun k hk => ?_⟩
  obtain ⟨k, rfl⟩ : ∃ m, k = m + 1 := ⟨k - 1, by omega⟩
  rw [dropD c.data i hlt, List.all_cons, Bool.and_assoc]
  generalize ((c.data.drop (i + 1)).all areaB && (entriesL c.gl [] c.procs && decide ((quoteR c.name).2 = 0))) = R at *
  simp only [bluebellref06_areas.l0]
  rw [if_pos (by omega), if_pos (by omega)]
  have ih2 : ∀ m, K ≤ m → bluebellref06_areas.l0 m (wrap64 ((i : Int) + 1)) c.name c.data c.ops c.gl c.procs c.labels = some R := fun m hm => by
   rw [at_succ i (by omega)]
   exact ih m hm
  have hj : ∀ b : Bool, bluebellref06_areas.j1 k (i : Int) b c.name c.data c.ops c.gl c.procs c.labels (rd_T47 c.data (i : Int)).f0 (rd_T47 c.data (i : Int)).f1 (rd_T47 c.data (i : Int)).f2 = some (!b && (!anyNarrow (rd_T47 c.data (i : Int)).f2 && R)) := by
   intro b
   obtain ⟨k, rfl⟩ : ∃ m, k = m + 1 := ⟨k - 1, by omega⟩
   simp only [bluebellref06_areas.j1]
   cases b with
   | true => rfl
   | false =>
    rw [if_neg (by decide)]
    have q := areas_l1 c i (rd_T47 c.data (i : Int)).f0 (rd_T47 c.data (i : Int)).f1 (rd_T47 c.data (i : Int)).f2 hw.2 R _ ih2 (rd_T47 c.data (i : Int)).f2.length 0 k (by omega) (by omega) (by omega)
    rw [List.drop_zero] at q
    exact q
  generalize rd_T47 c.data (i : Int) = d at *
  unfold areaB
  cases hb : d.f1 with
  | true =>
   obtain ⟨r, hr⟩ := quote_ref d.f0 hw.1 k (by omega)
   rw [if_pos rfl, hr, Option.bind_some, ih2 k (by omega)]
   simp only [if_true]
   by_cases g : (quoteR d.f0).2 = 0
   ·rw [if_pos g, decide_eq_true g]
    by_cases g2 : d.f2 = []
    ·rw [if_neg (by rw [g2]; simp), decide_eq_true g2]; rfl
    ·rw [if_pos (by have := List.length_pos_iff.2 g2; omega), decide_eq_false g2]; rfl
   ·rw [if_neg g, decide_eq_false g]; rfl
  | false =>
   rw [hb] at hj
   rw [if_neg (by decide)]
   simp only [Bool.false_eq_true, if_false]
   by_cases g : d.f0.toList = []
   ·rw [if_pos g, hj, g]
    by_cases g2 : d.f2 = []
    ·rw [g2]; rfl
    ·rw [show ((d.f2.length : Int) == 0) = false from beq_eq_false_iff_ne.2 (by have := List.length_pos_iff.2 g2; omega), decide_eq_false g2]
     cases anyNarrow d.f2 <;> rfl
   ·rw [if_neg g, hj]
    cases h2 : d.f0.toList with
    | nil => exact absurd h2 g
    | cons x l => rfl
theorem areas_ref (c : Cod) (hf : Fine c) : ∃ K, ∀ k, K ≤ k → bluebellref06_areas.f k c.name c.data c.ops c.gl c.procs c.labels = some (areasB c && decide ((quoteR c.name).2 = 0)) := by
 obtain ⟨K, h⟩ := areas_l0 c hf c.data.length 0 (by omega) (by omega)
 refine ⟨K, fun k hk => ?_⟩
 have q := h k hk
 rw [show ((0 : Nat) : Int) = 0 from rfl, List.drop_zero] at q
 unfold bluebellref06_areas.f areasB
 rw [q, Bool.and_assoc]
end Go.Proofs.Ytkmcanknbdaliaa.Lx
