/- Code that is not too great, and what 'heavy', 'large' and 'Check' answer of it, in plain words. -/
import Derived.Test.YtkmcanknbdaliaaQChecksStackA
import Derived.Test.YtkmcanknbdaliaaQChecks1
namespace Go.Proofs.Ytkmcanknbdaliaa.Lx
open Go Go.RowKit Go.Proofs.YtkmcanknbdaliaaW.PrintWords Go.Proofs.YtkmcanknbdaliaaW.PrintLast Go.Proofs.YtkmcanknbdaliaaW.PrintMore Go.Proofs.Ytkmcanknbdaliaa.PO
abbrev Dat := S47
abbrev Ent := S68
def fineD (d : Dat) : Bool := decide (d.f0.size ≤ 1000000) && decide (d.f2.length ≤ 1000000)
/-- Its parts are not too great. -/
def fineB (c : Cod) : Bool := decide (c.name.size ≤ 1000000) && decide (c.ops.length ≤ 1000000) && decide (c.gl.length ≤ 1000000) && decide (c.data.length ≤ 1000000) && c.data.all fineD
structure Fine (c : Cod) : Prop where
 n : c.name.size ≤ 1000000
 o : c.ops.length ≤ 1000000
 g : c.gl.length ≤ 1000000
 d : c.data.length ≤ 1000000
 w : ∀ d ∈ c.data, d.f0.size ≤ 1000000 ∧ d.f2.length ≤ 1000000
theorem fine_iff (c : Cod) : fineB c = true ↔ Fine c := by
 unfold fineB
 simp only [Bool.and_eq_true_iff, decide_eq_true_iff, List.all_eq_true, fineD]
 constructor
 ·rintro ⟨⟨⟨⟨h1, h2⟩, h3⟩, h4⟩, h5⟩
  exact ⟨h1, h2, h3, h4, h5⟩
 ·rintro ⟨h1, h2, h3, h4, h5⟩
  exact ⟨⟨⟨⟨h1, h2⟩, h3⟩, h4⟩, h5⟩
theorem rdD_mem (l : List Dat) (k : Nat) (hk : k < l.length) : rd_T47 l (k : Int) ∈ l := by
 simp [rd_T47, List.getD_eq_getElem?_getD, List.getElem?_eq_getElem hk]
theorem dropD (l : List Dat) (k : Nat) (hk : k < l.length) : l.drop k = rd_T47 l (k : Int) :: l.drop (k + 1) := by
 rw [List.drop_eq_getElem_cons hk]
 congr 1
 simp [rd_T47, List.getD_eq_getElem?_getD, List.getElem?_eq_getElem hk]
theorem Fine.areas {c : Cod} (h : Fine c) : AreasOk c := ⟨h.d, h.g, fun k hk => by have := h.w _ (rdD_mem c.data k hk); exact ⟨by omega, this.2⟩⟩
theorem Fine.coded {c : Cod} (h : Fine c) (hl : c.labels ≤ 1000000) : CodedOk c := ⟨by have := h.n; omega, h.o, hl, h.areas⟩
/-! ### large -/
def areaSize (d : Dat) : Int := d.f2.length + (if d.f1 = true then ((d.f0.size : Int) + 2) / 2 else 0)
def areasSize (l : List Dat) : Int := (l.map areaSize).sum
theorem areaSize_ge (d : Dat) : 0 ≤ areaSize d := by unfold areaSize; split <;> omega
theorem large_l0 (D : List Dat) (hD : D.length ≤ 2000) (hf : ∀ d ∈ D, d.f0.size ≤ 1000000 ∧ d.f2.length ≤ 1000000) : ∀ (n i : Nat) (x : Int) (k : Nat), D.length - i = n → i ≤ D.length → n < k → 0 ≤ x → x ≤ 2000000 * (i : Int) →
  ocode_large.l0 k x D (D.length : Int) (i : Int) = some (decide (x + areasSize (D.drop i) > 7800))
 | 0, i, x, k, hn, hi, hk, h0, h1 => by
  obtain ⟨k, rfl⟩ : ∃ m, k = m + 1 := ⟨k - 1, by omega⟩
  obtain rfl : i = D.length := by omega
  simp only [ocode_large.l0]
  rw [if_neg (by omega), List.drop_length]
  simp [areasSize]
 | n + 1, i, x, k, hn, hi, hk, h0, h1 => by
  obtain ⟨k, rfl⟩ : ∃ m, k = m + 1 := ⟨k - 1, by omega⟩
  have hlt : i < D.length := by omega
  have hm := hf _ (rdD_mem D i hlt)
  have e : areasSize (D.drop i) = areaSize (rd_T47 D (i : Int)) + areasSize (D.drop (i + 1)) := by rw [dropD D i hlt]; simp [areasSize]
  rw [e]
  simp only [ocode_large.l0]
  rw [if_pos (by omega), if_pos (by omega), if_pos (by omega)]
  generalize rd_T47 D (i : Int) = d at *
  have ei : wrap64 ((i : Int) + 1) = ((i + 1 : Nat) : Int) := by rw [w64 _ (by omega)]; simp
  have e2 : Int.tdiv ((d.f0.size : Int) + 2) 2 = ((d.f0.size : Int) + 2) / 2 := Int.tdiv_eq_ediv_of_nonneg (by omega)
  rw [ei]
  clear ei
  by_cases hb : d.f1 = true
  ·rw [if_pos hb]
   rw [w64 ((d.f0.size : Int) + 2) (by omega), e2]
   clear e2
   rw [w64 (((d.f0.size : Int) + 2) / 2) (by omega), w64 (x + (d.f2.length : Int)) (by omega), w64 _ (by omega)]
   rw [large_l0 D hD hf n (i + 1) _ k (by omega) (by omega) (by omega) (by omega) (by omega)]
   unfold areaSize
   rw [if_pos hb]
   congr 2
   rw [eq_iff_iff]
   omega
  ·rw [if_neg hb]
   rw [w64 (x + (d.f2.length : Int)) (by omega)]
   rw [large_l0 D hD hf n (i + 1) _ k (by omega) (by omega) (by omega) (by omega) (by omega)]
   unfold areaSize
   rw [if_neg hb]
   congr 2
   rw [eq_iff_iff]
   omega
def largeB (c : Cod) : Bool := decide ((c.ops.length : Int) > 40000) || decide ((c.data.length : Int) > 2000) || decide (c.procs > 200) || decide (c.labels > 20000) || decide (areasSize c.data > 7800)
theorem large_f (c : Cod) (h : Fine c) (k : Nat) (hk : c.data.length + 2 ≤ k) : ocode_large.f k c.name c.data c.ops c.gl c.procs c.labels = some (largeB c) := by
 obtain ⟨k, rfl⟩ : ∃ m, k = m + 1 := ⟨k - 1, by omega⟩
 have hj : ∀ b : Bool, (b = false → c.data.length ≤ 2000) → ocode_large.j0 (k + 1) b c.name c.data c.ops c.gl c.procs c.labels = some (b || decide (areasSize c.data > 7800)) := by
  intro b hb
  simp only [ocode_large.j0]
  cases b with
  | true => rw [if_pos rfl]; rfl
  | false =>
   have q := large_l0 c.data (hb rfl) h.w c.data.length 0 0 k (by omega) (by omega) (by omega) (by omega) (by omega)
   rw [show ((0 : Nat) : Int) = 0 from rfl] at q
   rw [if_neg (by decide), q]
   simp
 unfold ocode_large.f largeB
 by_cases h1 : (c.ops.length : Int) > 40000
 ·rw [if_pos h1, hj true (by simp), decide_eq_true h1]; simp
 rw [if_neg h1, decide_eq_false h1]
 by_cases h2 : (c.data.length : Int) > 2000
 ·rw [if_pos h2, hj true (by simp), decide_eq_true h2]; simp
 rw [if_neg h2, decide_eq_false h2]
 by_cases h3 : c.procs > 200
 ·rw [if_pos h3, hj true (by simp), decide_eq_true h3]; simp
 rw [if_neg h3, decide_eq_false h3, hj _ (fun _ => by omega)]
 simp
/-! ### heavy -/
structure Wide (c : Cod) : Prop where
 n : c.name.size ≤ 140737488351232
 o : c.ops.length ≤ 140737488351232
 g : c.gl.length ≤ 140737488351232
 d : c.data.length ≤ 140737488351232
 w : ∀ d ∈ c.data, d.f0.size ≤ 140737488351232 ∧ d.f2.length ≤ 140737488351232
def dataSize (l : List Dat) : Nat := (l.map fun d => 1 + d.f0.size + d.f2.length).sum
theorem dataSize_len : ∀ l : List Dat, l.length ≤ dataSize l
 | [] => by simp [dataSize]
 | d :: l => by have := dataSize_len l; simp [dataSize] at this ⊢; omega
theorem dataSize_mem : ∀ (l : List Dat), ∀ d ∈ l, d.f0.size ≤ dataSize l ∧ d.f2.length ≤ dataSize l
 | [], d, h => by cases h
 | e :: l, d, h => by
  have ih := dataSize_mem l d
  simp [dataSize] at ih ⊢
  rcases List.mem_cons.1 h with rfl | h
  ·omega
  ·have := ih h; omega
theorem heavy_l0 (c : Cod) (hw : Wide c) : ∀ (n i : Nat) (x : Int) (k : Nat), c.data.length - i = n → i ≤ c.data.length → n < k → 0 ≤ x → x ≤ 300000000000000 →
  ∃ b, bluebellref00_HeavyCode.l0 k 40100 x (i : Int) c.name c.data c.ops c.gl c.procs c.labels = some b ∧ (b = false → c.ops.length ≤ 40100 ∧ c.gl.length ≤ 400 ∧ x + dataSize (c.data.drop i) ≤ 2000)
 | 0, i, x, k, hn, hi, hk, h0, h1 => by
  obtain ⟨k, rfl⟩ : ∃ m, k = m + 1 := ⟨k - 1, by omega⟩
  obtain rfl : i = c.data.length := by omega
  simp only [bluebellref00_HeavyCode.l0]
  rw [if_neg (by omega), List.drop_length]
  by_cases a : (c.ops.length : Int) > 40100
  ·exact ⟨true, by rw [if_pos a], by simp⟩
  by_cases b : (c.gl.length : Int) > 400
  ·exact ⟨true, by rw [if_neg a, if_pos b], by simp⟩
  ·refine ⟨_, by rw [if_neg a, if_neg b], fun h => ⟨by omega, by omega, ?_⟩⟩
   have := of_decide_eq_false h
   simp [dataSize]
   omega
 | n + 1, i, x, k, hn, hi, hk, h0, h1 => by
  obtain ⟨k, rfl⟩ : ∃ m, k = m + 1 := ⟨k - 1, by omega⟩
  have hlt : i < c.data.length := by omega
  have hm := hw.w _ (rdD_mem c.data i hlt)
  have hd := hw.d
  have e : dataSize (c.data.drop i) = (1 + (rd_T47 c.data (i : Int)).f0.size + (rd_T47 c.data (i : Int)).f2.length) + dataSize (c.data.drop (i + 1)) := by rw [dropD c.data i hlt]; simp [dataSize]
  rw [e]
  simp only [bluebellref00_HeavyCode.l0]
  rw [if_pos (by omega)]
  generalize rd_T47 c.data (i : Int) = d at *
  by_cases g : x ≤ 2000
  ·rw [if_pos g, if_pos (by omega)]
   have ei : wrap64 ((i : Int) + 1) = ((i + 1 : Nat) : Int) := by rw [w64 _ (by omega)]; simp
   rw [ei]
   clear ei
   rw [w64 (x + 1) (by omega), w64 (x + 1 + (d.f0.size : Int)) (by omega), w64 _ (by omega)]
   obtain ⟨b, hb, h⟩ := heavy_l0 c hw n (i + 1) (x + 1 + (d.f0.size : Int) + (d.f2.length : Int)) k (by omega) (by omega) (by omega) (by omega) (by omega)
   refine ⟨b, hb, fun q => ?_⟩
   obtain ⟨h1, h2, h3⟩ := h q
   exact ⟨h1, h2, by omega⟩
  ·rw [if_neg g]
   by_cases a : (c.ops.length : Int) > 40100
   ·exact ⟨true, by rw [if_pos a], by simp⟩
   by_cases b : (c.gl.length : Int) > 400
   ·exact ⟨true, by rw [if_neg a, if_pos b], by simp⟩
   ·exact ⟨true, by rw [if_neg a, if_neg b, decide_eq_true (by omega : x > 2000)], by simp⟩
theorem heavy_f (c : Cod) (hw : Wide c) : ∃ b, (∀ k, c.data.length < k → bluebelllaw06_heavy.f k c.name c.data c.ops c.gl c.procs c.labels = some b) ∧ (b = false → Fine c) := by
 have hn := hw.n
 obtain ⟨b, hb, h⟩ := heavy_l0 c hw c.data.length 0 (c.name.size : Int) (c.data.length + 1) (by omega) (by omega) (by omega) (by omega) (by omega)
 rw [show ((0 : Nat) : Int) = 0 from rfl] at hb
 refine ⟨b, fun k hk => ?_, fun q => ?_⟩
 ·unfold bluebelllaw06_heavy.f bluebellref00_HeavyCode.f
  rw [at_rounds (fun k => bluebellref00_HeavyCode.mono_l k _ _ _ _ _ _ _ _ _) (show c.data.length + 1 ≤ k by omega) hb]
  rfl
 ·obtain ⟨h1, h2, h3⟩ := h q
  rw [List.drop_zero] at h3
  have := dataSize_len c.data
  exact ⟨by omega, by omega, by omega, by omega, fun d hd => by have := dataSize_mem c.data d hd; omega⟩
end Go.Proofs.Ytkmcanknbdaliaa.Lx
