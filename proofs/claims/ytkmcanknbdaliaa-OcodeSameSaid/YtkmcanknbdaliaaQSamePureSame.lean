/- The law OcodeSame, in plain words: codes are the same exactly if they are in all fields. -/
import Derived.Test.YtkmcanknbdaliaaQSameESame
import Derived.Test.YtkmcanknbdaliaaQSameAwake
import Derived.Test.YtkmcanknbdaliaaQSameOpenCode
import Derived.Test.YtkmcanknbdaliaaQSame6
namespace Go.Proofs.Ytkmcanknbdaliaa.Lx
open Go Go.RowKit Go.Proofs.YtkmcanknbdaliaaW.PrintWords Go.Proofs.YtkmcanknbdaliaaW.PrintLast Go.Proofs.YtkmcanknbdaliaaW.PrintMore Go.Proofs.Ytkmcanknbdaliaa.PO
theorem eqLB_ne {α : Type} {f : α → α → Bool} {l m : List α} (h : l.length ≠ m.length) : eqLB f l m = false := by
  cases e : eqLB f l m with
  | true => exact absurd (eqLB_len e) h
  | false => rfl
theorem eqCode_l1 (c d : Cod) (hg : c.gl.length ≤ 1000000) (ho : c.ops.length ≤ 1000000) (hl : c.gl.length = d.gl.length) : ∀ (n i k : Nat), c.gl.length - i = n → i ≤ c.gl.length → n + c.ops.length + 2 ≤ k →
    bluebellref00_EqCode.l1 k (i : Int) c.name c.data c.ops c.gl c.procs c.labels d.name d.data d.ops d.gl d.procs d.labels = some (eqLB eqE (c.gl.drop i) (d.gl.drop i) && eqLB eqO c.ops d.ops)
  | 0, i, k, hn, hi, hk => by
    obtain ⟨k, rfl⟩ : ∃ m, k = m + 1 := ⟨k - 1, by omega⟩
    rw [List.drop_eq_nil_of_le (by omega), List.drop_eq_nil_of_le (by omega)]
    simp only [bluebellref00_EqCode.l1]
    rw [if_neg (by omega), bluebellref00_EqOps_f _ _ (by omega) k (by omega), Option.bind_some, eqLB, Bool.true_and]
  | n + 1, i, k, hn, hi, hk => by
    obtain ⟨k, rfl⟩ : ∃ m, k = m + 1 := ⟨k - 1, by omega⟩
    rw [dropE c.gl i (by omega), dropE d.gl i (by omega), eqLB]
    have ih := eqCode_l1 c d hg ho hl n (i + 1) k (by omega) (by omega) (by omega)
    simp only [bluebellref00_EqCode.l1]
    rw [if_pos (by omega), if_pos (by omega), if_pos (by omega), at_succ i (by omega), ih]
    generalize rd_T68 c.gl (i : Int) = a
    generalize rd_T68 d.gl (i : Int) = b
    unfold eqE
    cases h0 : a.f0 == b.f0 <;> cases h1 : a.f1 == b.f1 <;> rfl
theorem eqCode_l0 (c d : Cod) (hf : Fine c) (hd : c.data.length = d.data.length) (hl : c.gl.length = d.gl.length) : ∀ (n i k : Nat), c.data.length - i = n → i ≤ c.data.length → n + 1000000 + c.gl.length + c.ops.length + 4 ≤ k →
    bluebellref00_EqCode.l0 k (i : Int) c.name c.data c.ops c.gl c.procs c.labels d.name d.data d.ops d.gl d.procs d.labels = some (eqLB eqD (c.data.drop i) (d.data.drop i) && (eqLB eqE c.gl d.gl && eqLB eqO c.ops d.ops))
  | 0, i, k, hn, hi, hk => by
    obtain ⟨k, rfl⟩ : ∃ m, k = m + 1 := ⟨k - 1, by omega⟩
    rw [List.drop_eq_nil_of_le (by omega), List.drop_eq_nil_of_le (by omega)]
    have q := eqCode_l1 c d hf.g hf.o hl c.gl.length 0 k (by omega) (by omega) (by omega)
    rw [show ((0 : Nat) : Int) = 0 from rfl, List.drop_zero, List.drop_zero] at q
    simp only [bluebellref00_EqCode.l0]
    rw [if_neg (by omega), q, eqLB, Bool.true_and]
  | n + 1, i, k, hn, hi, hk => by
    obtain ⟨k, rfl⟩ : ∃ m, k = m + 1 := ⟨k - 1, by omega⟩
    have hdd := hf.d
    rw [dropD c.data i (by omega), dropD d.data i (by omega), eqLB]
    have ih := eqCode_l0 c d hf hd hl n (i + 1) k (by omega) (by omega) (by omega)
    have hx := (hf.w _ (rdD_mem c.data i (by omega))).2
    simp only [bluebellref00_EqCode.l0]
    rw [if_pos (by omega), if_pos (by omega), if_pos (by omega), at_succ i (by omega), ih]
    generalize rd_T47 c.data (i : Int) = a at *
    generalize rd_T47 d.data (i : Int) = b at *
    rw [bluebellref00_EqInts_f a.f2 b.f2 (by omega) k (by omega), Option.bind_some]
    unfold eqD
    by_cases g : a.f0.toList = b.f0.toList
    · rw [if_pos g, beq_iff_eq.2 g]
      cases h1 : a.f1 == b.f1 with
      | false => rw [if_pos (by rw [bne, h1]; rfl)]; rfl
      | true =>
        rw [if_neg (by rw [bne, h1]; decide)]
        cases eqLB eqI a.f2 b.f2 <;> rfl
    · rw [if_neg g, beq_eq_false_iff_ne.2 g]
      cases h1 : a.f1 == b.f1 <;> rfl
theorem eqCode_f (c d : Cod) (hf : Fine c) (k : Nat) (hk : 5000000 ≤ k) : bluebellref00_EqCode.f k c.name c.data c.ops c.gl c.procs c.labels d.name d.data d.ops d.gl d.procs d.labels = some (sameB c d) := by
  obtain ⟨k, rfl⟩ : ∃ m, k = m + 1 := ⟨k - 1, by omega⟩
  have h1 := hf.d
  have h2 := hf.g
  have h3 := hf.o
  have hj : bluebellref00_EqCode.j0 (k + 1) true c.name c.data c.ops c.gl c.procs c.labels d.name d.data d.ops d.gl d.procs d.labels = some false := by
    simp only [bluebellref00_EqCode.j0]
    rfl
  unfold bluebellref00_EqCode.f sameB
  by_cases g1 : c.name.toList = d.name.toList
  case neg => rw [if_neg g1, hj, beq_eq_false_iff_ne.2 g1]; rfl
  rw [if_pos g1, beq_iff_eq.2 g1, Bool.true_and]
  by_cases g2 : c.procs = d.procs
  case neg => rw [if_neg g2, hj, beq_eq_false_iff_ne.2 g2]; rfl
  rw [if_pos g2, beq_iff_eq.2 g2, Bool.true_and]
  by_cases g3 : c.labels = d.labels
  case neg => rw [if_neg g3, hj, beq_eq_false_iff_ne.2 g3]; rfl
  rw [if_pos g3, beq_iff_eq.2 g3, Bool.true_and]
  by_cases g4 : (c.data.length : Int) = (d.data.length : Int)
  case neg => rw [if_neg g4, hj, eqLB_ne (f := eqD) (by omega : c.data.length ≠ d.data.length), Bool.and_false, Bool.and_false]
  rw [if_pos g4]
  by_cases g5 : c.gl.length = d.gl.length
  case neg =>
    rw [show ((c.gl.length : Int) != (d.gl.length : Int)) = true from bne_iff_ne.2 (by omega), hj, eqLB_ne (f := eqE) g5, Bool.false_and, Bool.and_false]
  rw [show ((c.gl.length : Int) != (d.gl.length : Int)) = false from bne_eq_false_iff_eq.2 (by omega)]
  simp only [bluebellref00_EqCode.j0]
  have q := eqCode_l0 c d hf (by omega) g5 c.data.length 0 k (by omega) (by omega) (by omega)
  rw [show ((0 : Nat) : Int) = 0 from rfl, List.drop_zero, List.drop_zero] at q
  rw [if_neg (by decide), q]
  cases eqLB eqD c.data d.data <;> cases eqLB eqE c.gl d.gl <;> cases eqLB eqO c.ops d.ops <;> rfl
theorem eqO_symm (a b : S35) : eqO a b = eqO b a := by unfold eqO; rw [BEq.comm (a := a.f0), BEq.comm (a := a.f1), BEq.comm (a := a.f2)]
theorem eqE_symm (a b : S68) : eqE a b = eqE b a := by unfold eqE; rw [BEq.comm (a := a.f0), BEq.comm (a := a.f1)]
theorem eqI_symm (a b : Int) : eqI a b = eqI b a := by unfold eqI; rw [BEq.comm]
theorem eqD_symm (a b : S47) : eqD a b = eqD b a := by unfold eqD; rw [BEq.comm (a := a.f1), BEq.comm (a := a.f0.toList), eqLB_symm eqI_symm]
theorem same_symm (c d : Cod) : sameB c d = sameB d c := by
  unfold sameB
  rw [BEq.comm (a := c.name.toList), BEq.comm (a := c.procs), BEq.comm (a := c.labels), eqLB_symm eqO_symm, eqLB_symm eqE_symm, eqLB_symm eqD_symm]
theorem same_f (c d : Cod) (hf : Fine c) : ocode_Same.f c.name c.data c.ops c.gl c.procs c.labels d.name d.data d.ops d.gl d.procs d.labels = some (sameB c d) := by
  unfold ocode_Same.f
  exact if_pos ((fine_iff c).2 hf)
theorem same_pure (c d : Cod) (hc : Wide c) (_ : Whole c) (hd : Wide d) (_ : Whole d) : ∃ k, bluebelllaw06_OcodeSame.f k c.name c.data c.ops c.gl c.procs c.labels d.name d.data d.ops d.gl d.procs d.labels = some true := by
  obtain ⟨b1, hb1, hf1⟩ := heavy_f c hc
  obtain ⟨b2, hb2, hf2⟩ := heavy_f d hd
  refine ⟨c.data.length + d.data.length + 5000002, ?_⟩
  obtain ⟨k, hk⟩ : ∃ k, c.data.length + d.data.length + 5000002 = k + 1 := ⟨_, rfl⟩
  unfold bluebelllaw06_OcodeSame.f
  rw [hb1 _ (by omega), Option.bind_some, hb2 _ (by omega), Option.bind_some, hk]
  cases b1 with
  | true => rw [if_pos rfl]; simp only [bluebelllaw06_OcodeSame.j0]; rw [if_pos trivial, awake_f k (by omega)]; rfl
  | false =>
    rw [if_neg (by decide)]
    simp only [bluebelllaw06_OcodeSame.j0]
    cases b2 with
    | true => rw [if_pos rfl, awake_f k (by omega)]; rfl
    | false =>
      rw [if_neg (by decide), same_f c d (hf1 rfl), same_f d c (hf2 rfl), eqCode_f c d (hf1 rfl) k (by omega), same_symm d c]
      simp only [Option.bind_some]
      rw [if_pos (by simp), if_pos (by simp), awake_f k (by omega)]
      rfl
end Go.Proofs.Ytkmcanknbdaliaa.Lx
