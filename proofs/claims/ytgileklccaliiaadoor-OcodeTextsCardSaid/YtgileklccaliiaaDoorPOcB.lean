/- An evaluator of the model's code on data, and what its answers mean for the machine (second part). -/
import Derived.Test.YtgileklccaliiaaDoorPOcA
import Derived.Lib.AppendStr
import Derived.Lib.ConvBytes
set_option linter.unusedVariables false
set_option linter.unusedSimpArgs false
namespace Go.Pv
open RowKit
variable {P : Program} {G G' : Gh} {w w' w0 : World} {nt : Cx} {s : St} {a : Act}

def StrSl (td : TypeDesc) : Prop := td = .string ∨ ∃ e, td = .slice e

/-- What is appended: m elements, whose cells are news. -/
structure Src (P : Program) (w : World) (sz : Nat) (q : Value) (m : Nat) (news : List Value) : Prop where
  len : ∀ w, (Builtin.lenOf q).run P w = .ok m w
  cells : ∀ w', w'.heap = w.heap → (Builtin.firstCells sz m q).run P w' = .ok news.toArray w'
  size : news.length = m * sz
  one : ∀ u ∈ news, u.oneCell' = true

/-- Cells are stored in a row; what is frozen lies behind them all. -/
theorem run_storeCells_tail (P : Program) (g o : Nat) (t : TypeId) (fz : Nat × Nat) : ∀ (vs : List Value) (i : Nat) (cur : Array Value) (w : World), w.heap[g]? = some (.cells cur t fz) → (fz = (0, 0) ∨ cur.size ≤ fz.1) → o + i + vs.length ≤ cur.size → (∀ v ∈ vs, v.oneCell' = true) →
    (storeCells ⟨g, o, none⟩ vs i).run P w = .ok () (w.setRow g (cur.toList.take (o + i) ++ vs ++ cur.toList.drop (o + i + vs.length)).toArray)
  | [], i, cur, w, hg, _, _, _ => by
    simp only [storeCells, List.append_nil, List.length_nil, Nat.add_zero, List.take_append_drop, Array.toArray_toList]
    rw [setRow_self w g cur t fz hg]
    rfl
  | v :: rest, i, cur, w, hg, hfz, hl, h1 => by
    have hi : o + i < cur.size := by simp at hl; omega
    have hadd : (⟨g, o, none⟩ : Addr).add i = ⟨g, o + i, none⟩ := by unfold Addr.add; split <;> simp_all
    have hcell : w.cell? ⟨g, o + i, none⟩ = some cur[o + i] := by simp [World.cell?, hg, hi]
    have hfro : w.frozen? ⟨g, o + i, none⟩ = false := by
      obtain ⟨lo, hi'⟩ := fz
      simp only [World.frozen?, hg, Bool.and_eq_false_iff, decide_eq_false_iff_not]
      rcases hfz with h | h
      · simp only [Prod.mk.injEq] at h; omega
      · simp only at h; omega
    have hst : (store ((⟨g, o, none⟩ : Addr).add i) v).run P w = .ok () (w.setRow g (cur.setIfInBounds (o + i) v)) := by
      rw [hadd, run_store P w _ v _ (h1 v (by simp)), hcell]
      simp [hfro, setCell_eq_setRow w g (o + i) cur t fz v hg]
    have ih := run_storeCells_tail P g o t fz rest (i + 1) (cur.setIfInBounds (o + i) v) (w.setRow g (cur.setIfInBounds (o + i) v)) (setRow_heap w g cur _ t _ hg) (by simpa using hfz) (by simp at hl ⊢; omega) (fun x hx => h1 x (by simp [hx]))
    simp only [storeCells, Sem.run_bind, hst, Result.andThen_ok, ih, setRow_setRow]
    congr 3
    rw [show o + (i + 1) = o + i + 1 by omega]
    have hm : min (o + i) cur.size = o + i := by omega
    have hd : List.drop (o + i + 1 + rest.length) ((cur.toList).set (o + i) v) = List.drop (o + i + 1 + rest.length) cur.toList := List.drop_set_of_lt (by omega)
    rw [Array.toList_setIfInBounds, List.take_set, hd]
    have ht : (List.take (o + i + 1) cur.toList).set (o + i) v = List.take (o + i) cur.toList ++ [v] := by
      rw [List.take_add_one]
      simp [hi, List.set_append, hm]
    rw [ht]
    simp [List.append_assoc, Nat.add_assoc, Nat.add_comm 1]

theorem run_append_fit {t u ty e : TypeId} {td : TypeDesc} {i : TypeInfo} (ht : P.underlying t = some (.slice e)) (hu : P.underlying u = some td) (htd : StrSl td) (hi : P.info? e = some i)
    {g sLen sCap : Nat} {cur : Array Value} {fz : Nat × Nat} (hg : w.heap[g]? = some (.cells cur e fz)) (hfz : fz = (0, 0) ∨ cur.size ≤ fz.1) {q : Value} {m : Nat} {news : List Value} (hs : Src P w i.size q m news) (hroom : sLen + m ≤ sCap) (hfit : sLen * i.size + news.length ≤ cur.size) :
    (Builtin.append_ #[t, u] ty #[.slice (some ⟨g, 0, none⟩) sLen sCap, q]).run P w =
      .ok (.slice (some ⟨g, 0, none⟩) (sLen + m) sCap) (w.setRow g (cur.toList.take (sLen * i.size) ++ news ++ cur.toList.drop (sLen * i.size + news.length)).toArray) := by
  have hst := run_storeCells_tail P g (sLen * i.size) e fz news 0 cur w hg hfz (by simpa using hfit) hs.one
  simp only [Nat.add_zero] at hst
  have hf := hs.cells w rfl
  have hl := hs.len w
  rcases htd with rfl | ⟨e', rfl⟩ <;> simp [Builtin.append_, run_underlying ht, run_underlying hu, sizeOf, typeInfo, hi, hl, hroom, hf, Addr.add_lit, hst]

theorem run_append_none0 {t u ty e : TypeId} {td : TypeDesc} {i : TypeInfo} (ht : P.underlying t = some (.slice e)) (hu : P.underlying u = some td) (htd : StrSl td) (hi : P.info? e = some i)
    {q : Value} {news : List Value} (hs : Src P w i.size q 0 news) :
    (Builtin.append_ #[t, u] ty #[.slice none 0 0, q]).run P w = .ok (.slice none 0 0) w := by
  have hf := hs.cells w rfl
  have hl := hs.len w
  rcases htd with rfl | ⟨e', rfl⟩ <;> simp [Builtin.append_, run_underlying ht, run_underlying hu, sizeOf, typeInfo, hi, hl, hf]

theorem run_append_new {t u ty e : TypeId} {td : TypeDesc} {i : TypeInfo} {z : Value} (ht : P.underlying t = some (.slice e)) (hu : P.underlying u = some td) (htd : StrSl td) (hi : P.info? e = some i) (hz : i.zero = some z)
    {p : Value} {ba : Option Addr} {sLen sCap : Nat} (hp : p = .slice ba sLen sCap) {olds : List Value} (holds : ∀ w', w'.heap = w.heap → (Builtin.firstCells i.size sLen p).run P w' = .ok olds.toArray w')
    {q : Value} {m : Nat} {news : List Value} (hs : Src P w i.size q m news)
    (hg : sCap < sLen + m) (h63 : ((sLen + m : Nat) : Int) ≤ 9223372036854775807) (hfit : Builtin.nextslicecap (sLen + m) sCap * i.bytes ≤ 281474976710656) :
    (Builtin.append_ #[t, u] ty #[p, q]).run P w =
      .ok (.slice (some ⟨w.heap.size, 0, none⟩) (sLen + m) (grownCap w (sLen + m) sCap e))
        (w.drew.alloc (.cells (olds.toArray ++ news.toArray ++ Builtin.zeroCells z.cells (grownCap w (sLen + m) sCap e - (sLen + m))) e)) := by
  have hn : ¬ (sLen + m ≤ sCap) := by omega
  have h63' : ¬ (9223372036854775807 < ((sLen : Int) + (m : Int))) := by omega
  have h48' : ¬ (281474976710656 < Builtin.nextslicecap (sLen + m) sCap * i.bytes) := by omega
  have hf := hs.cells w.drew rfl
  have hfo := holds w.drew rfl
  have hl := hs.len w
  subst hp
  rcases htd with rfl | ⟨e', rfl⟩ <;> simp [Builtin.append_, run_underlying ht, run_underlying hu, sizeOf, typeInfo, zeroValue, hi, hz, hl, hn, h63', h48', Question.forced, hf, hfo, newRow, grownCap]
  all_goals
    congr 2
    apply Array.ext'
    simp [List.append_assoc]

/-- Appending to a slice that the call owns: what it is behind that. -/
theorem run_append_any [LaidC P] {st : Bool} {t u ty e : TypeId} {td : TypeDesc} {i : TypeInfo} {z : Value} (ht : P.underlying t = some (.slice e)) (hu : P.underlying u = some td) (htd : StrSl td) (hi : P.info? e = some i) (hz : i.zero = some z)
    (hzs : z.cells.size = i.size) {p : Value} {n : Nat} {cl : List Value} (ho : w.ownsT st 0 e i.size p n cl) {q : Value} {m : Nat} {news : List Value} (hs : Src P w i.size q m news) (h63 : n + m ≤ maxLen) (hbytes : (n + m) * i.bytes ≤ 140737488355328) :
    ∃ v w' row, (Builtin.append_ #[t, u] ty #[p, q]).run P w = .ok v w' ∧ w'.ownsT st 0 e i.size v (n + m) (cl ++ news) ∧ w.grownBy w' row ∧ (∀ b, row = some b → blk p = some b) ∧ (∀ b, blk v = some b → blk p = some b ∨ w.heap.size ≤ b) := by
  have hlen : (cl ++ news).length = (n + m) * i.size := by rw [List.length_append, ho.1, hs.size, Nat.add_mul]
  have hsmall : n + m ≤ 9223372036854775807 := by simp only [maxLen] at h63; omega
  have grown : ∀ (old : Nat), w.drew.alloc (.cells (cl.toArray ++ news.toArray ++ Builtin.zeroCells z.cells (grownCap w (n + m) old e - (n + m))) e) |>.ownsT st 0 e i.size
        (.slice (some ⟨w.heap.size, 0, none⟩) (n + m) (grownCap w (n + m) old e)) (n + m) (cl ++ news) := by
    intro old
    have hge := grownCap_ge w (n + m) old e
    have hcm : grownCap w (n + m) old e ≤ maxLen := grownCap_le_maxLen w (n + m) old e h63
    refine ⟨hlen, .inr ⟨w.heap.size, _, _, (0, 0), rfl, Nat.zero_le _, heap_alloc_new w.drew _, .inl rfl, hge, hcm, ?_, ?_⟩⟩
    · simp only [Array.size_append, List.size_toArray, size_zeroCells, hzs, ho.1, hs.size, ← Nat.add_mul]
      congr 1
      omega
    · simp only [Array.toList_append, List.append_assoc]
      rw [← List.append_assoc, ← hlen]
      exact List.take_left
  have hgr : ∀ o : Obj, w.grownBy (w.drew.alloc o) none := fun o => ⟨rfl, rfl, rfl, by simp, fun k hk _ => heap_alloc_old w.drew _ k hk⟩
  rcases ho.2 with ⟨rfl, rfl⟩ | ⟨g, cap, cur, fz, rfl, -, hg, hfz, hnc, hcm, hcs, htake⟩
  · have hx : cl = [] := List.eq_nil_of_length_eq_zero (by simpa using ho.1)
    subst hx
    by_cases hm : m = 0
    · subst hm
      have hn : news = [] := List.eq_nil_of_length_eq_zero (by simpa using hs.size)
      subst hn
      exact ⟨.slice none 0 0, w, none, run_append_none0 ht hu htd hi hs, World.ownsT_nil w st 0 e i.size, ⟨rfl, rfl, rfl, Nat.le_refl _, fun _ _ _ => rfl⟩, (fun b h => by cases h), fun b h => by simp [blk] at h⟩
    · have hr := run_append_new (ty := ty) ht hu htd hi hz (p := .slice none 0 0) rfl (olds := []) (fun w' _ => by simp [Builtin.firstCells]) hs (by omega) (by omega) (growslice_fits (by omega) hbytes)
      refine ⟨_, _, none, hr, grown 0, hgr _, (fun b h => by cases h), fun b h => .inr ?_⟩
      have : w.heap.size = b := by simpa [blk] using h
      omega
  · by_cases hroom : n + m ≤ cap
    · have hfit : n * i.size + news.length ≤ cur.size := by rw [hs.size, hcs, ← Nat.add_mul]; exact Nat.mul_le_mul_right _ hroom
      have hr := run_append_fit (ty := ty) ht hu htd hi hg (hfz.imp id And.right) hs hroom hfit
      refine ⟨_, _, some g, hr, ⟨hlen, .inr ⟨g, cap, _, fz, rfl, Nat.zero_le _, setRow_heap w g cur _ e _ hg, hfz.imp id (fun h => ⟨h.1, by have h := h.2; simp only [List.size_toArray, List.length_append, List.length_take, List.length_drop, Array.length_toList]; omega⟩), hroom, hcm, ?_, ?_⟩⟩, ⟨rfl, rfl, rfl, by simp, fun k _ hk => setRow_other w g k _ (fun e => hk (by simp [e]))⟩,
        (fun b h => by simpa [blk] using h), fun b h => .inl (by simpa [blk] using h)⟩
      · simp only [List.size_toArray, List.length_append, List.length_take, List.length_drop, Array.length_toList]
        omega
      · rw [htake, ← hlen]
        exact List.take_left
    · have holds : ∀ w', w'.heap = w.heap → (Builtin.firstCells i.size n (.slice (some ⟨g, 0, none⟩) n cap)).run P w' = .ok cl.toArray w' := fun w' hw' => by
        refine run_firstCells_some w' i.size n ⟨g, 0, none⟩ n cap cl ho.1 (fun j v hj => ?_)
        have := ho.cells (g := g) rfl j v hj
        simpa [World.cell?, hw'] using this
      have hr := run_append_new (ty := ty) ht hu htd hi hz rfl holds hs (by omega) (by omega) (growslice_fits (by omega) hbytes)
      refine ⟨_, _, none, hr, grown cap, hgr _, (fun b h => by cases h), fun b h => .inr ?_⟩
      have : w.heap.size = b := by simpa [blk] using h
      omega

end Go.Pv

namespace Go.Pv
open RowKit Lib
variable {P : Program} {G G' : Gh} {w w' w0 : World} {nt : Cx} {s : St} {a : Act}

theorem rd_append : ∀ (xs ys : List D) (i : Nat), rd (xs ++ ys) i = if i < xs.length then rd xs i else rd ys (i - xs.length)
  | [], ys, i => by simp
  | x :: xs, ys, 0 => by simp [rd]
  | x :: xs, ys, i + 1 => by
    have := rd_append xs ys i
    simp only [List.cons_append, rd, List.length_cons, this, Nat.add_lt_add_iff_right, Nat.add_sub_add_right]

theorem elems_append {e : TypeId} {ok : Nat → Prop} {xs ys : List D} {cl news : List Value} (hl : cl.length = xs.length * csz P e) (h1 : Elems P w ok e (fun k => cl[k]?) xs) (h2 : Elems P w ok e (fun k => news[k]?) ys) : Elems P w ok e (fun k => (cl ++ news)[k]?) (xs ++ ys) := by
  intro i hi
  rw [List.length_append] at hi
  rw [rd_append]
  by_cases h : i < xs.length
  · rw [if_pos h]
    refine ⟨(h1 i h).1, fun j hj => ?_⟩
    obtain ⟨v, hv, r⟩ := (h1 i h).2 j hj
    refine ⟨v, ?_, r⟩
    simp only at hv ⊢
    rw [List.getElem?_append_left]
    · exact hv
    · rw [hl]
      calc i * csz P e + j < (i + 1) * csz P e := by rw [Nat.add_mul]; omega
        _ ≤ _ := Nat.mul_le_mul_right _ h
  · rw [if_neg h]
    refine ⟨(h2 (i - xs.length) (by omega)).1, fun j hj => ?_⟩
    obtain ⟨v, hv, r⟩ := (h2 (i - xs.length) (by omega)).2 j hj
    refine ⟨v, ?_, r⟩
    simp only at hv ⊢
    have e1 : i * csz P e = (i - xs.length) * csz P e + xs.length * csz P e := by rw [← Nat.add_mul]; congr 1; omega
    rw [List.getElem?_append_right (by rw [hl, e1]; omega)]
    have : i * csz P e + j - cl.length = (i - xs.length) * csz P e + j := by rw [hl, e1]; omega
    rw [this]; exact hv

theorem lr_src {e : TypeId} (hT : okT P e = true) {ys : List D} {q : Value} (h : LR P G w e ys q) : ∃ news, Src P w (csz P e) q ys.length news ∧ Elems P w G.ok e (fun k => news[k]?) ys := by
  rcases h with ⟨rfl, rfl⟩ | ⟨a, cap, rfl, rfl, -⟩ | ⟨b, off, cap, rfl, hc, -, hE⟩
  · exact ⟨[], ⟨fun w => by simp [Builtin.lenOf], fun w' _ => by simp [Builtin.firstCells], by simp, by simp⟩, fun i hi => by simp at hi⟩
  · exact ⟨[], ⟨fun w => by simp [Builtin.lenOf], fun w' _ => by simp [Builtin.firstCells, loadCells, loadCellsFrom], by simp, by simp⟩, fun i hi => by simp at hi⟩
  · have hpos := (okT_len hT).2.1
    have hcell : ∀ k, k < ys.length * csz P e → ∃ v, w.cell? ⟨b, off + k, none⟩ = some v ∧ v.oneCell' = true := fun k hk => by
      have h1 : k / csz P e < ys.length := (Nat.div_lt_iff_lt_mul hpos).2 hk
      obtain ⟨v, hv, r⟩ := (hE _ h1).cell (k % csz P e) (Nat.mod_lt _ hpos)
      refine ⟨v, ?_, r.one⟩
      have : off + k / csz P e * csz P e + k % csz P e = off + k := by
        have := Nat.div_add_mod k (csz P e)
        rw [Nat.mul_comm] at this
        omega
      rw [this] at hv
      exact hv
    let f : Nat → Value := fun k => (w.cell? ⟨b, off + k, none⟩).getD undef
    have hf : ∀ k, k < ys.length * csz P e → w.cell? ⟨b, off + k, none⟩ = some (f k) ∧ (f k).oneCell' = true := fun k hk => by
      obtain ⟨v, hv, h1⟩ := hcell k hk
      have : f k = v := by simp [f, hv]
      rw [this]; exact ⟨hv, h1⟩
    have hget : ∀ (k : Nat) (v : Value), ((List.range (ys.length * csz P e)).map f)[k]? = some v → k < ys.length * csz P e ∧ v = f k := fun k v hv => by
      by_cases hk : k < ys.length * csz P e
      · refine ⟨hk, ?_⟩
        simpa [hk] using hv.symm
      · rw [List.getElem?_eq_none (by simpa using hk)] at hv; cases hv
    refine ⟨(List.range (ys.length * csz P e)).map f, ⟨fun w => by simp [Builtin.lenOf], fun w' hw' => ?_, by simp, fun u hu => ?_⟩, fun i hi => ⟨(hE i hi).shape, fun j hj => ?_⟩⟩
    · refine run_firstCells_some w' _ _ ⟨b, off, none⟩ _ cap _ (by simp) (fun k v hv => ?_)
      obtain ⟨hk, rfl⟩ := hget k v hv
      rw [add_addr]
      have := (hf k hk).1
      simpa [World.cell?, hw'] using this
    · obtain ⟨k, hk, rfl⟩ := List.mem_map.1 hu
      exact (hf k (by simpa using hk)).2
    · obtain ⟨v, hv, r⟩ := (hE i hi).cell j hj
      have hk : i * csz P e + j < ys.length * csz P e := by
        calc i * csz P e + j < (i + 1) * csz P e := by rw [Nat.add_mul]; omega
          _ ≤ _ := Nat.mul_le_mul_right _ hi
      refine ⟨v, ?_, r⟩
      have h1 := (hf _ hk).1
      rw [Nat.add_assoc] at hv
      rw [hv] at h1
      simp [hk, Option.some.inj h1]

theorem str_src {e : TypeId} (hT : okT P e = true) (he : P.underlying e = some (.int .u8)) (x : ByteArray) : Src P w (csz P e) (.string x) (ubytes x).length (strCells x) ∧ Elems P w G.ok e (fun k => (strCells x)[k]?) (ubytes x) := by
  have hA : isA P e = false := by rw [isA_eq he]; rfl
  have hsz := (okT_len hT).2.2 hA
  have hk : cks P e = [.int .u8] := by
    unfold cks cksF kindOf
    simp only [he]
  have hlen : (ubytes x).length = x.size := by simp only [ubytes, List.length_map, Array.length_toList]; rfl
  refine ⟨⟨fun w => by simp [Builtin.lenOf, hlen], fun w' _ => ?_, by rw [strCells_length, hlen, hsz, Nat.mul_one], strCells_oneCell x⟩, fun i hi => ⟨(fun h => by rw [hA] at h; cases h), fun j hj => ?_⟩⟩
  · rw [hlen]; exact run_firstCells_string w' _ x
  · have hj0 : j = 0 := by omega
    subst hj0
    rw [hsz, hk, hA]
    have hi' : i < x.data.toList.length := by simpa [ubytes] using hi
    have h1 : rd (ubytes x) i = .i (x.data.toList[i]'hi').toNat := by
      have h2 := rd_get hi
      have h3 : (ubytes x)[i]? = some (.i (x.data.toList[i]'hi').toNat) := by simp only [ubytes, List.getElem?_map, List.getElem?_eq_getElem hi', Option.map_some]
      rw [h3] at h2
      exact (Option.some.inj h2).symm
    refine ⟨.int .u8 (x.data.toList[i]'hi').toNat, ?_, ?_⟩
    · simp only [strCells, Nat.mul_one, Nat.add_zero, List.getElem?_map, List.getElem?_eq_getElem hi', Option.map_some]
    · rw [h1]; exact .int _ _

theorem elemsV_src [LaidC P] (hob : ∀ n, RelO P G s.ob w n (s.ob n)) {e : TypeId} (hT : okT P e = true) {Y : V} {q : Value} (hY : RelV P G s.ob w Y q) {ys : List D} (h : elemsV P s.ob e Y = some ys) :
    ∃ news, Src P w (csz P e) q ys.length news ∧ Elems P w G.ok e (fun k => news[k]?) ys := by
  unfold elemsV at h
  split at h
  · obtain rfl := Option.some.inj h
    simp only [RelV] at hY
    exact lr_src hT (.inl ⟨hY, rfl⟩)
  · rename_i x
    split at h
    · rename_i he
      obtain rfl := Option.some.inj h
      simp only [RelV] at hY
      subst hY
      exact ⟨_, str_src hT he x⟩
    · cases h
  · split at h
    · rename_i e' xs hl
      split at h
      · rename_i hee
        obtain rfl := beq_eq hee
        obtain rfl := Option.some.inj h
        exact lr_src hT (listV_sound hob hY hl)
      · cases h
    · cases h

/-- What an operation that makes or writes objects comes to. -/
def Done (P : Program) [LaidC P] (nt : Cx) (w0 : World) (s : St) (a : Act) (r : Result Value) (ef : Eff) : Prop :=
  ∃ G' u w', r = .ok u w' ∧ Rel P nt w0 G' { s with ob := upO (frO s.ob ef.fr) ef.up } a w' ∧ RelV P G' (upO (frO s.ob ef.fr) ef.up) w' ef.v u

theorem appendV_sound [LaidC P] (R : Rel P nt w0 G s a w) {d : Nat} {t u ty : TypeId} {td : TypeDesc} (hu : P.underlying u = some td) (htd : StrSl td) {X Y : V} {p q : Value} (hX : RelV P G s.ob w X p) (hY : RelV P G s.ob w Y q) {c : Option Bool} {ef : Eff}
    (h : appendV P s.ob d t X Y = some (c, ef)) (hc : ∀ x, c = some x → x = true) : Done P nt w0 s a ((Builtin.append_ #[t, u] ty #[p, q]).run P w) ef := by
  unfold appendV at h
  split at h
  · rename_i e ht
    split at h
    · rename_i ys hT hz hb hys
      obtain ⟨z, hz⟩ := Option.isSome_iff_exists.1 hz
      obtain ⟨i, zv, hi, hzv, hev⟩ := zeroD_sound hz
      have he0 := hev G w
      have hsz := csz_info hi
      obtain ⟨news, hs, hE⟩ := elemsV_src R.ob hT hY hys
      rw [hi] at hb
      simp only [Bool.and_eq_true, Nat.ble_eq] at hb
      have hb128 : i.bytes ≤ 128 := hb.1
      have key : ∀ {st : Bool} {v0 : Value} {n : Nat} {cl : List Value}, w.ownsT st 0 e (csz P e) v0 n cl → n + ys.length ≤ lim → ∃ v w' row, (Builtin.append_ #[t, u] ty #[v0, q]).run P w = .ok v w' ∧ w'.ownsT st 0 e (csz P e) v (n + ys.length) (cl ++ news) ∧ w.grownBy w' row ∧ (∀ b, row = some b → blk v0 = some b) ∧ (∀ b, blk v = some b → blk v0 = some b ∨ w.heap.size ≤ b) := fun ho hl => by
        rw [hsz] at ho ⊢
        refine run_append_any ht hu htd hi hzv (by rw [he0.size, hsz]) ho (by rw [← hsz]; exact hs) ?_ ?_
        · unfold lim at hl; simp only [maxLen]; omega
        · unfold lim at hl
          calc (_ + ys.length) * i.bytes ≤ 1099511627776 * 128 := Nat.mul_le_mul hl hb128
            _ ≤ _ := by decide
      split at h
      · split at h
        · rename_i hn
          obtain ⟨rfl, rfl⟩ := Prod.mk.inj (Option.some.inj h)
          simp only [RelV] at hX
          subst hX
          have hnone : s.ob (1024 * d) = .none := by
            cases ho : s.ob (1024 * d) <;> rw [ho] at hn <;> first | rfl | cases hn
          have hl : ys.length ≤ lim := by simpa using hc _ rfl
          obtain ⟨v, w', row, hr, ho, hg, hrow, hblk⟩ := key (World.ownsT_nil w true 0 e (csz P e)) (by simpa using hl)
          simp only [Nat.zero_add, List.nil_append] at ho
          have hrow' : row = none := by
            cases row with
            | none => rfl
            | some b => have := hrow b rfl; simp [blk] at this
          subst hrow'
          obtain ⟨G', R', hη, hm⟩ := R.setRow (n := 1024 * d) (g' := 1) (.inl hnone) hT hg (fun b h => by cases h) (fun b h => (hblk b h).elim (fun h => by simp [blk] at h) .inr) ho hE
          refine ⟨G', v, w', hr, R', ?_⟩
          simp only [upO, frO, RelV, setF_get, if_true]
          refine ⟨?_, Nat.le_refl _, fun _ => hη.symm⟩
          rcases ho.2 with ⟨h, _⟩ | ⟨_, _, _, _, h, _⟩ <;> rw [h] <;> rfl
        · cases h
      · rename_i n g
        split at h
        · rename_i e' xs g' hx
          split at h
          · rename_i hge
            simp only [Bool.and_eq_true] at hge
            obtain rfl := beq_eq hge.1
            obtain rfl := beq_eq hge.2
            obtain ⟨rfl, rfl⟩ := Prod.mk.inj (Option.some.inj h)
            simp only [RelV] at hX
            rw [hx] at hX
            obtain rfl := hX.2.2 rfl
            have hO := R.ob n
            rw [hx] at hO
            obtain ⟨-, cl, ho0, hE0⟩ := hO
            have hl : xs.length + ys.length ≤ lim := by simpa using hc _ rfl
            obtain ⟨v, w', row, hr, ho, hg, hrow, hblk⟩ := key ho0 hl
            obtain ⟨G', R', hη, hm⟩ := R.setRow (n := n) (xs' := xs ++ ys) (g' := g + 2) (.inr ⟨xs, g, hx, .inl (by omega)⟩) hT hg hrow hblk (by rw [List.length_append, show od (g + 2) = od g by unfold od; rw [Nat.add_mod_right]]; exact ho) (elems_append ho0.1 hE0 hE)
            refine ⟨G', v, w', hr, R', ?_⟩
            simp only [upO, frO, RelV, setF_get, if_true]
            refine ⟨?_, Nat.le_refl _, fun _ => hη.symm⟩
            rcases ho.2 with ⟨h, _⟩ | ⟨_, _, _, _, h, _⟩ <;> rw [h] <;> rfl
          · cases h
        · cases h
      · cases h
    · cases h
  · cases h

end Go.Pv

namespace Go.Pv
open RowKit Lib
variable {P : Program} {G G' : Gh} {w w' w0 : World} {nt : Cx} {s : St} {a : Act}

theorem isNone_eq {o : O} (h : o.isNone = true) : o = .none := by cases o <;> first | rfl | cases h

theorem run_newVar (t : TypeId) (v : Value) (w : World) : (newVar t v).run P w = .ok ⟨w.heap.size, 0, none⟩ (w.alloc (.cells v.cells t)) := rfl

theorem box_sound [LaidC P] (R : Rel P nt w0 G s a w) {n : Nat} (hn : s.ob n = .none) {x : V} {val : Value} (hx : RelV P G s.ob w x val) (t : TypeId) :
    (∀ e xs, x = .arr e xs → Done P nt w0 s a (.ok (.pointer (some ⟨w.heap.size, 0, none⟩)) (w.alloc (.cells val.cells t))) ⟨.ref n 0, [(n, .arr e xs)], []⟩) ∧
    Done P nt w0 s a (.ok (.pointer (some ⟨w.heap.size, 0, none⟩)) (w.alloc (.cells val.cells t))) ⟨.ref n 0, [(n, .box x)], []⟩ := by
  refine ⟨?_, ?_⟩
  · rintro e xs rfl
    simp only [RelV] at hx
    obtain ⟨cs, rfl, hs, hT, hE⟩ := hx
    obtain ⟨G', R', hη, hm⟩ := R.setArr (n := n) (.inl ⟨hn, rfl, Nat.le_refl _⟩) (World.grownBy_alloc w _ none) (heap_alloc_new w _) hT hs hE
    exact ⟨G', _, _, rfl, R', by simp only [upO, frO, RelV, setF_get, if_true]; exact ⟨rfl, _, hη, rfl⟩⟩
  · obtain ⟨G', R', hη, hm⟩ := R.setBox (n := n) (.inl ⟨hn, rfl, Nat.le_refl _⟩) (World.grownBy_alloc w (.cells val.cells t) none) (heap_alloc_new w _) hx
    exact ⟨G', _, _, rfl, R', by simp only [upO, frO, RelV, setF_get, if_true]; exact ⟨rfl, _, hη, rfl⟩⟩

theorem bd_sound [LaidC P] (R : Rel P nt w0 G s a w) {n : Nat} (hn : s.ob n = .none) (t : TypeId) :
    Done P nt w0 s a (.ok (.pointer (some ⟨w.heap.size, 0, none⟩)) (w.alloc (.cells #[.pointer none, .slice none 0 0] t))) ⟨.ref n 0, [(n, .bd t .nil)], []⟩ := by
  obtain ⟨G', R', hη, hm⟩ := R.setBd (n := n) hn (Nat.le_refl _) (World.grownBy_alloc w (.cells #[.pointer none, .slice none 0 0] t) none) (heap_alloc_new w _)
  exact ⟨G', _, _, rfl, R', by simp only [upO, frO, RelV, setF_get, if_true]; exact ⟨rfl, _, hη, rfl⟩⟩

theorem madeCells_get {z : Array Value} {n k : Nat} (hk : k < n) (hz : 0 < z.size) : (madeCells z n)[k]? = z[k % z.size]? := by
  have h1 : k % z.size < z.size := Nat.mod_lt _ hz
  simp [madeCells, hk, getElem!_pos z (k % z.size) h1, Array.getElem?_eq_getElem h1]

theorem made_elems {e : TypeId} {z : D} {zv : Value} (hev : EV P G w e zv z) (n : Nat) : Elems P w G.ok e (fun k => (madeCells zv.cells (n * csz P e)).toList[k]?) (List.replicate n z) := by
  intro i hi
  rw [List.length_replicate] at hi
  rw [rd_replicate _ _ _ hi]
  refine ⟨hev.shape, fun j hj => ?_⟩
  obtain ⟨v, hv, r⟩ := hev.cell j hj
  refine ⟨v, ?_, r⟩
  have hk : i * csz P e + j < n * csz P e := by
    calc i * csz P e + j < (i + 1) * csz P e := by rw [Nat.add_mul]; omega
      _ ≤ _ := Nat.mul_le_mul_right _ hi
  have := madeCells_get (z := zv.cells) hk (by rw [hev.size]; omega)
  rw [hev.size, Nat.add_comm (i * csz P e) j, Nat.add_mul_mod_self_right, Nat.mod_eq_of_lt hj, hv] at this
  show (madeCells zv.cells (n * csz P e)).toList[i * csz P e + j]? = some v
  rw [Array.getElem?_toList, Nat.add_comm]
  exact this

theorem makeSlice_sound [LaidC P] (R : Rel P nt w0 G s a w) {n : Nat} (hn : s.ob n = .none) {t e : TypeId} (ht : P.underlying t = some (.slice e)) {z : D} (hz : zeroD P e = some z) {i : TypeInfo} (hi : P.info? e = some i) (hb : i.bytes ≤ 128)
    (kl kc : IntKind) {c : Int} (h0 : 0 ≤ c) (h1 : c ≤ (lim : Int)) :
    Done P nt w0 s a ((Instr.makeSlice t (.int kl c) (.int kc c)).run P w) ⟨.own n 1, [(n, .row e (List.replicate c.toNat z) 1)], []⟩ ∧
    Done P nt w0 s a ((Instr.makeSlice t (.int kl 0) (.int kc c)).run P w) ⟨.own n 1, [(n, .row e [] 1)], []⟩ := by
  obtain ⟨i', zv, hi', hzv, hev⟩ := zeroD_sound hz
  obtain rfl : i = i' := by rw [hi] at hi'; exact Option.some.inj hi'
  have he0 := hev G w
  have hsz := csz_info hi
  have hbytes : (i.bytes : Int) * c ≤ 281474976710656 := by
    unfold lim at h1
    calc (i.bytes : Int) * c ≤ 128 * 1099511627776 := Int.mul_le_mul (by omega) (by omega) h0 (by omega)
      _ ≤ _ := by decide
  have h63 : c ≤ 9223372036854775807 := by unfold lim at h1; omega
  have hm : c.toNat ≤ maxLen := by simp only [maxLen]; omega
  refine ⟨?_, ?_⟩
  · rw [run_make w t e i zv ht hi hzv kl kc c c h0 (Int.le_refl _) hbytes h63]
    obtain ⟨G', R', hη, hm⟩ := R.setRow (n := n) (g' := 1) (xs' := List.replicate c.toNat z) (.inl hn) he0.okT (World.grownBy_alloc w (.cells (madeCells zv.cells (c.toNat * i.size)) e) none) (fun b h => by cases h) (v := .slice (some ⟨w.heap.size, 0, none⟩) c.toNat c.toNat)
      (fun b h => .inr (by have : w.heap.size = b := by simpa [blk] using h
                           omega))
      (cl := (madeCells zv.cells (c.toNat * i.size)).toList) (by rw [List.length_replicate, hsz]; exact World.ownsT_of (World.ownsRow_lit w _ c.toNat (Nat.zero_le _) hm (size_madeCells _ _))) (by rw [← hsz]; exact made_elems he0 c.toNat)
    exact ⟨G', _, _, rfl, R', by simp only [upO, frO, RelV, setF_get, if_true]; exact ⟨rfl, Nat.le_refl _, fun _ => hη.symm⟩⟩
  · rw [run_make w t e i zv ht hi hzv kl kc 0 c (Int.le_refl _) h0 hbytes h63]
    obtain ⟨G', R', hη, hm⟩ := R.setRow (n := n) (g' := 1) (xs' := []) (.inl hn) he0.okT (World.grownBy_alloc w (.cells (madeCells zv.cells (c.toNat * i.size)) e) none) (fun b h => by cases h) (v := .slice (some ⟨w.heap.size, 0, none⟩) 0 c.toNat)
      (fun b h => .inr (by have : w.heap.size = b := by simpa [blk] using h
                           omega))
      (cl := []) (by rw [hsz]; exact World.ownsT_of (World.ownsRow_made w _ c.toNat (Nat.zero_le _) hm (size_madeCells _ _))) (fun i hi => by simp at hi)
    exact ⟨G', _, _, rfl, R', by simp only [upO, frO, RelV, setF_get, if_true]; exact ⟨rfl, Nat.le_refl _, fun _ => hη.symm⟩⟩

theorem buildSlice_sound [LaidC P] (R : Rel P nt w0 G s a w) {n : Nat} (hn : s.ob n = .none) {t e : TypeId} (ht : P.underlying t = some (.slice e)) {z : D} (hz : zeroD P e = some z) {len : Nat} (hlen : len * csz P e ≤ smallB)
    {val : Operand → V} {ρ : Operand → Value} (hv : ∀ x, RelV P G s.ob w (val x) (ρ x)) {parts : Array (Nat × Operand)} {ds : List D} {l : List Nat} (hf : fillE P s.ob e (parts.toList.map fun p => (p.1, val p.2)) (List.replicate len z) = some (ds, l)) :
    Done P nt w0 s a ((Instr.buildSlice t len (parts.map fun (i, x) => (i, ρ x))).run P w) ⟨.own n 1, [(n, .row e ds 1)], l⟩ := by
  obtain ⟨i, zv, hi, hzv, hev⟩ := zeroD_sound hz
  have hsz := csz_info hi
  have hlen : len * csz P e ≤ 4096 := hlen
  obtain ⟨G1, R1, h1⟩ := R.freeze l
  have he0 := hev G1 w
  have hpos := (okT_len he0.okT).2.1
  have hf' := fillE_fr hf (L := l) (fun n h => h)
  obtain ⟨cells', c1, c2, c3, c4⟩ := fillE_sound (G := G1) (ob := frO s.ob l) (w := w) he0.okT (qs := parts.toList.map fun p => (p.1, ρ p.2)) (by simp) (fun j y hy => by
    rw [List.getElem?_map] at hy
    cases hp : parts.toList[j]? with
    | none => rw [hp] at hy; cases hy
    | some p =>
      rw [hp] at hy
      obtain rfl := Option.some.inj hy
      exact ⟨ρ p.2, by simp [List.getElem?_map, hp], h1 _ _ (hv p.2)⟩) hf' (cells := madeCells zv.cells (len * csz P e)) (by simp [size_madeCells]) (by simpa using made_elems he0 len)
  have e1 : (parts.map fun (i, x) => (i, ρ x)).toList = parts.toList.map fun p => (p.1, ρ p.2) := by simp
  have hrun : (Instr.buildSlice t len (parts.map fun (i, x) => (i, ρ x))).run P w = .ok (.slice (some ⟨w.heap.size, 0, none⟩) len len) (w.alloc (.cells cells' e)) := by
    have h4 : ¬ (len * csz P e > 2 ^ 24) := by omega
    have hzv' : (zeroValue e).run P w = .ok zv w := by simp [zeroValue, typeInfo, hi, hzv]
    unfold Instr.buildSlice
    simp only [Sem.run_bind, run_underlying ht, Result.andThen_ok, run_sizeOf' hi, ← hsz, h4, if_false, e1]
    by_cases h0 : len * csz P e = 0
    · have hm0 : madeCells zv.cells (len * csz P e) = #[] := by rw [h0]; simp [madeCells]
      rw [hm0] at c1
      simp only [h0, if_true, Sem.run_bind, Sem.run_pure, Result.andThen_ok]
      have hz0 : ∀ f : Nat → Value, (Array.range 0).map f = #[] := fun f => by simp
      rw [hz0, c1]
      simp [newRow]
    · simp only [h0, if_false]
      simp only [Sem.run_bind, hzv', Result.andThen_ok, Sem.run_pure]
      have : (Array.range (len * csz P e)).map (fun x => zv.cells[x % zv.cells.size]!) = madeCells zv.cells (len * csz P e) := rfl
      simp [this, c1, newRow]
  rw [hrun]
  rw [List.length_replicate] at c3
  have hm : len ≤ maxLen := by
    have : len ≤ len * csz P e := Nat.le_mul_of_pos_right _ hpos
    simp only [maxLen]; omega
  have hnf : frO s.ob l n = .none := by rw [frO_get, hn]; split <;> rfl
  obtain ⟨G', R', hη, hm⟩ := R1.setRow (n := n) (g' := 1) (xs' := ds) (.inl hnf) he0.okT (World.grownBy_alloc w (.cells cells' e) none) (fun b h => by cases h) (v := .slice (some ⟨w.heap.size, 0, none⟩) len len)
    (fun b h => .inr (by have : w.heap.size = b := by simpa [blk] using h
                         omega))
    (cl := cells'.toList) (by rw [c3]; exact World.ownsT_of (World.ownsRow_lit w _ len (Nat.zero_le _) hm (by rw [c2, c3]))) (by simpa using c4)
  exact ⟨G', _, _, rfl, R', by simp only [upO, RelV, setF_get, if_true]; exact ⟨rfl, Nat.le_refl _, fun _ => hη.symm⟩⟩

/-- Something is laid beside all that is known. -/
theorem Rel.grow [LaidC P] (R : Rel P nt w0 G s a w) (hg : w.grownBy w' none) : Rel P nt w0 ⟨G.A, w'.heap.size, G.η⟩ s a w' ∧ Mo P G s.ob w ⟨G.A, w'.heap.size, G.η⟩ s.ob w' := by
  let G' : Gh := ⟨G.A, w'.heap.size, G.η⟩
  have hok : ∀ b, G.ok b → G'.ok b ∧ w'.heap[b]? = w.heap[b]? := fun b h => by
    have hb : b < w.heap.size := by rw [← R.N]; exact h.2.1
    exact ⟨⟨h.1, Nat.lt_of_lt_of_le hb hg.size, h.2.2⟩, hg.block b hb (by simp)⟩
  have mo : Mo P G s.ob w G' s.ob w' := ⟨hok, fun m => by
    cases s.ob m <;> simp only [ChO]
    · rfl
    · exact ⟨trivial, .inr ⟨trivial, trivial, rfl⟩⟩
    · exact ⟨trivial, trivial, trivial⟩
    · exact ⟨trivial, rfl⟩
    · exact ⟨trivial, trivial, rfl⟩
    · exact ⟨trivial, rfl⟩⟩
  refine ⟨R.step mo (fun m => ?_) R.inj (fun m b h => ?_) rfl rfl R.hA (R.below.grown hg R.below.size fun k hk => by cases hk), mo⟩
  · have := R.ob m
    show RelO P G' s.ob _ m (s.ob m)
    cases hy : s.ob m with
    | none => simp only [RelO]
    | fz => simp only [RelO]
    | dead => simp only [RelO]
    | box y =>
      rw [hy] at this
      obtain ⟨b, el, val, h1, h2, h3⟩ := this
      have hb : blk (G.η m) = some b := by rw [h1]; rfl
      exact ⟨b, el, val, h1, (hg.block b (R.new m b hb).2.1 (by simp)).trans h2, h3.mono mo⟩
    | bd tb y =>
      rw [hy] at this
      obtain ⟨b, pv, val, h1, h2, h4p, h3⟩ := this
      have hb : blk (G.η m) = some b := by rw [h1]; rfl
      exact ⟨b, pv, val, h1, (hg.block b (R.new m b hb).2.1 (by simp)).trans h2, h4p, h3.mono mo⟩
    | row e' ys g'' =>
      rw [hy] at this
      obtain ⟨h1, cl', h2, h3⟩ := this
      refine ⟨h1, cl', h2.kept hg ?_, h3.mono hok⟩
      cases hb : (G.η m).ownBlock with
      | none => exact .inl rfl
      | some b => exact .inr (by simp)
    | arr e' ys =>
      rw [hy] at this
      obtain ⟨h1, b, el, cs, h2, h3, h4, h5⟩ := this
      have hb : blk (G.η m) = some b := by rw [h2]; rfl
      exact ⟨h1, b, el, cs, h2, (hg.block b (R.new m b hb).2.1 (by simp)).trans h3, h4, h5.mono hok⟩
    | mp k' e' l =>
      rw [hy] at this
      obtain ⟨b, h1, h2⟩ := this
      exact ⟨b, h1, h2.kept hg (by simp)⟩
  · have := R.new m b h
    exact ⟨this.1, Nat.lt_of_lt_of_le this.2.1 hg.size, this.2.2⟩


theorem litV_sound [LaidC P] (R : Rel P nt w0 G s a w) {t e : TypeId} (ht : P.underlying t = some (.slice e)) {z : D} (hz : zeroD P e = some z) {len : Nat} (hlen : len * csz P e ≤ smallB)
    {qs : List (Nat × Value)} {parts : Array (Nat × Value)} (hqs : parts.toList = qs) {ps : List (Nat × V)} (hl : qs.length = ps.length) (hv : ∀ (j : Nat) (y : Nat × V), ps[j]? = some y → ∃ p, qs[j]? = some (y.1, p) ∧ RelV P G s.ob w y.2 p) {ds : List D}
    (hf : fillE P s.ob e ps (List.replicate len z) = some (ds, [])) :
    ∃ G' u w', (Instr.buildSlice t len parts).run P w = .ok u w' ∧ Rel P nt w0 G' s a w' ∧ RelV P G' s.ob w' (.sl e ds) u := by
  obtain ⟨i, zv, hi, hzv, hev⟩ := zeroD_sound hz
  have hsz := csz_info hi
  have hlen : len * csz P e ≤ 4096 := hlen
  have he0 := hev G w
  have hpos := (okT_len he0.okT).2.1
  obtain ⟨cells', c1, c2, c3, c4⟩ := fillE_sound (G := G) (ob := s.ob) (w := w) he0.okT hl hv hf (cells := madeCells zv.cells (len * csz P e)) (by simp [size_madeCells]) (by simpa using made_elems he0 len)
  have hrun : (Instr.buildSlice t len parts).run P w = .ok (.slice (some ⟨w.heap.size, 0, none⟩) len len) (w.alloc (.cells cells' e)) := by
    have h4 : ¬ (len * csz P e > 2 ^ 24) := by omega
    have hzv' : (zeroValue e).run P w = .ok zv w := by simp [zeroValue, typeInfo, hi, hzv]
    unfold Instr.buildSlice
    simp only [Sem.run_bind, run_underlying ht, Result.andThen_ok, run_sizeOf' hi, ← hsz, h4, if_false, hqs]
    by_cases h0 : len * csz P e = 0
    · have hm0 : madeCells zv.cells (len * csz P e) = #[] := by rw [h0]; simp [madeCells]
      rw [hm0] at c1
      simp only [h0, if_true, Sem.run_bind, Sem.run_pure, Result.andThen_ok]
      have hz0 : ∀ f : Nat → Value, (Array.range 0).map f = #[] := fun f => by simp
      rw [hz0, c1]
      simp [newRow]
    · simp only [h0, if_false]
      simp only [Sem.run_bind, hzv', Result.andThen_ok, Sem.run_pure]
      have : (Array.range (len * csz P e)).map (fun x => zv.cells[x % zv.cells.size]!) = madeCells zv.cells (len * csz P e) := rfl
      simp [this, c1, newRow]
  have hg : w.grownBy (w.alloc (.cells cells' e)) none := World.grownBy_alloc w _ none
  obtain ⟨R', mo⟩ := R.grow hg
  rw [List.length_replicate] at c3
  refine ⟨_, _, _, hrun, R', ?_⟩
  simp only [RelV]
  rw [← c3]
  refine RepC.slice ⟨R.hA _ R.below.size, ?_, fun m h => ?_⟩ (heap_alloc_new w (.cells cells' e)) he0.okT (Nat.le_refl _) (fun i hi => ?_)
  · exact (Array.getElem?_eq_some_iff.1 (MapKept.heap_alloc w (.cells cells' e)).1).1
  · have := (R.new m _ h).2.1; omega
  · obtain ⟨h1, h2⟩ := c4 i hi
    refine ⟨h1, fun j hj => ?_⟩
    obtain ⟨v, hv, r⟩ := h2 j hj
    exact ⟨v, by simpa using hv, r.mono mo.ok⟩

theorem bytes_sound [LaidC P] (R : Rel P nt w0 G s a w) {n : Nat} (hn : s.ob n = .none) {src dst e : TypeId} (hs : P.underlying src = some .string) (hd : P.underlying dst = some (.slice e)) (he : P.underlying e = some (.int .u8)) (hT : okT P e = true) (x : ByteArray) (hx : x.size ≤ maxLen) :
    Done P nt w0 s a ((convert src dst (.string x)).run P w) ⟨.own n 0, [(n, .row e (ubytes x) 0)], []⟩ := by
  rw [Lib.run_convert_string_bytes w src dst e x hs hd he]
  have hg : w.grownBy (bytesWorld w e x) none := ⟨rfl, rfl, rfl, by rw [bytesWorld_size]; omega, fun k hk _ => bytesWorld_at_old w e x k hk⟩
  obtain ⟨h1, h2⟩ := str_src (w := w) (G := G) hT he x
  have hsz1 : csz P e = 1 := (okT_len hT).2.2 (by unfold isA; rw [he]; rfl)
  have hge := grownCap_ge w x.size 0 e
  have hcm := grownCap_le_maxLen w x.size 0 e hx
  have hxs : x.data.size = x.size := rfl
  have hcs : (bytesCells w e x).size = grownCap w x.size 0 e := by
    unfold bytesCells
    rw [Array.size_append, Array.size_map, Array.size_replicate]
    omega
  have hbk : ∀ b, blk (.slice (some ⟨w.heap.size, 0, none⟩) x.size (grownCap w x.size 0 e)) = some b → blk (G.η n) = some b ∨ w.heap.size ≤ b := fun b h => by
    have : w.heap.size = b := by simpa [blk] using h
    exact .inr (by omega)
  obtain ⟨G', R', hη, hm⟩ := R.setRow (n := n) (e := e) (xs' := ubytes x) (g' := 0) (v := .slice (some ⟨w.heap.size, 0, none⟩) x.size (grownCap w x.size 0 e)) (cl := strCells x) (row := none) (.inl hn) hT hg (fun b h => by cases h) hbk (by
      have hul : (ubytes x).length = x.size := by unfold ubytes; rw [List.length_map, Array.length_toList]; rfl
      rw [hul, hsz1]
      refine ⟨by rw [strCells_length, Nat.mul_one], .inr ⟨w.heap.size, _, _, _, rfl, Nat.zero_le _, bytesWorld_at_new w e x, .inr ⟨rfl, Nat.le_refl _⟩, hge, hcm, by rw [hcs, Nat.mul_one], ?_⟩⟩
      rw [Nat.mul_one]
      simp only [bytesCells, Array.toList_append, strCells]
      have hml : (x.data.map fun b => Value.int .u8 b.toNat).toList.length = x.size := by rw [Array.length_toList, Array.size_map]; rfl
      rw [List.take_append_of_le_length (by rw [hml]; exact Nat.le_refl _), List.take_of_length_le (by rw [hml]; exact Nat.le_refl _), Array.toList_map]) h2
  refine ⟨G', _, _, rfl, R', ?_⟩
  simp only [upO, frO, RelV, setF_get, if_true]
  exact ⟨rfl, Nat.le_refl _, fun _ => hη.symm⟩

theorem run_convert_mark {t e : TypeId} (ht : P.underlying t = some (.slice e)) (he : P.underlying e = some (.int .u8)) {w : World} {g : Nat} {cs : Array Value} {el : TypeId} {fz : Nat × Nat} (hh : w.heap[g]? = some (.cells cs el fz)) (n c : Nat) :
    (convert t t (.slice (some ⟨g, 0, none⟩) n c)).run P w = .ok (.slice (some ⟨g, 0, none⟩) n c) (w.freeze ⟨g, cs.size, none⟩ 1) := by
  have hsh : w.shape? g = some (el, cs.size) := by simp [World.shape?, hh]
  simp [convert, run_underlying ht, run_underlying he, markStringish, hsh]
theorem freeze_at {w : World} {g k : Nat} {cs : Array Value} {el : TypeId} (hh : w.heap[g]? = some (.cells cs el (0, 0))) : (w.freeze ⟨g, k, none⟩ 1).heap[g]? = some (.cells cs el (k, k + 1)) := by
  simp [World.freeze, Array.getElem?_modify, hh]
theorem freeze_other {w : World} {g k b : Nat} (h : b ≠ g) : (w.freeze ⟨g, k, none⟩ 1).heap[b]? = w.heap[b]? := by
  simp [World.freeze, Array.getElem?_modify, Ne.symm h]
/-- A literal of bytes that stands for a string's: its block gets the mark. -/
theorem mark_sound [LaidC P] (R : Rel P nt w0 G s a w) {t e : TypeId} (ht : P.underlying t = some (.slice e)) (he : P.underlying e = some (.int .u8)) {n g : Nat} {xs : List D} {p : Value} (hX : RelV P G s.ob w (.own n g) p) (hx : s.ob n = .row e xs g) (ho : od g = true) (hpos : 0 < xs.length) :
    Done P nt w0 s a ((convert t t p).run P w) ⟨.own n (g + 1), [(n, .row e xs (g + 1))], []⟩ := by
  simp only [RelV] at hX
  rw [hx] at hX
  obtain rfl := hX.2.2 rfl
  have hO := R.ob n
  rw [hx] at hO
  obtain ⟨hT, cl, ho0, hE0⟩ := hO
  rcases ho0.2 with ⟨-, h0⟩ | ⟨b, cap, cur, fz, hv, h1, h2, h3, h4⟩
  · omega
  · rw [ho] at h3
    have hfz : fz = (0, 0) := by rcases h3 with h | ⟨h, -⟩ <;> first | exact h | cases h
    subst hfz
    rw [hv, run_convert_mark ht he h2]
    have hw' := freeze_at (k := cur.size) h2
    have hg : w.grownBy (w.freeze ⟨b, cur.size, none⟩ 1) (some b) := ⟨rfl, rfl, rfl, by simp [World.freeze], fun k _ hk => freeze_other (fun e => hk (by rw [e]))⟩
    have hod : od (g + 1) = false := by
      have h2 : g % 2 = 1 := beq_eq ho
      unfold od
      cases h : Nat.beq ((g + 1) % 2) 1 with
      | false => rfl
      | true =>
        have h3 : (g + 1) % 2 = 1 := beq_eq h
        omega
    obtain ⟨G', R', hη, hm⟩ := R.setRow (n := n) (e := e) (xs' := xs) (g' := g + 1) (v := .slice (some ⟨b, 0, none⟩) xs.length cap) (cl := cl) (row := some b) (.inr ⟨xs, g, hx, .inl (by omega)⟩) hT hg (fun k hk => by rw [hv, ← Option.some.inj hk]; rfl) (fun k hk => .inl (by rw [hv]; exact hk))
      (by rw [hod]; exact ⟨ho0.1, .inr ⟨b, cap, cur, _, rfl, h1, hw', .inr ⟨rfl, Nat.le_refl _⟩, h4⟩⟩) hE0
    refine ⟨G', _, _, rfl, R', ?_⟩
    simp only [upO, frO, RelV, setF_get, if_true]
    exact ⟨rfl, Nat.le_refl _, fun _ => hη.symm⟩

end Go.Pv

namespace Go.Pv
open RowKit Lib
variable {P : Program} {G G' : Gh} {w w' w0 : World} {nt : Cx} {s : St} {a : Act}

def splice (cur : Array Value) (o : Nat) (vs : List Value) : Array Value := (cur.toList.take o ++ vs ++ cur.toList.drop (o + vs.length)).toArray

theorem splice_size {cur : Array Value} {o : Nat} {vs : List Value} (h : o + vs.length ≤ cur.size) : (splice cur o vs).size = cur.size := by
  simp only [splice, List.size_toArray, List.length_append, List.length_take, List.length_drop, Array.length_toList]; omega

theorem splice_get {cur : Array Value} {o : Nat} {vs : List Value} (h : o + vs.length ≤ cur.size) (k : Nat) : (splice cur o vs)[k]? = if o ≤ k ∧ k < o + vs.length then vs[k - o]? else cur[k]? := by
  have ht : (cur.toList.take o).length = o := by simp; omega
  simp only [splice, List.getElem?_toArray]
  by_cases h1 : k < o
  · rw [if_neg (by omega), List.append_assoc, List.getElem?_append_left (by omega), List.getElem?_take, if_pos h1, Array.getElem?_toList]
  · by_cases h2 : k < o + vs.length
    · rw [if_pos (by omega), List.getElem?_append_left (by rw [List.length_append]; omega), List.getElem?_append_right (by omega), ht]
    · rw [if_neg (by omega), List.getElem?_append_right (by rw [List.length_append]; omega), List.length_append, ht, List.getElem?_drop, Array.getElem?_toList]
      congr 1; omega

theorem splice_all {cur : Array Value} {cs : Array Value} (h : cs.size = cur.size) : splice cur 0 cs.toList = cs := by
  apply Array.ext_getElem?
  intro k
  rw [splice_get (by simp [h])]
  split
  · simp
  · rename_i hk
    rw [Array.getElem?_eq_none (by simp at hk; omega), Array.getElem?_eq_none (by simp at hk; omega)]

theorem splice_one {cur : Array Value} {o : Nat} {q : Value} (h : o < cur.size) : splice cur o [q] = cur.setIfInBounds o q := by
  apply Array.ext_getElem?
  intro k
  rw [splice_get (show o + 1 ≤ _ by omega)]
  by_cases hk : k = o
  · subst hk; simp [h]
  · rw [if_neg (by simp; omega), Array.getElem?_setIfInBounds_ne (by omega)]

theorem run_storeAt {t : TypeId} {i : TypeInfo} (hi : P.info? t = some i) {v : Value} (hsz : v.cells.size = i.size) {b o : Nat} {cur : Array Value} {el : TypeId} {fz : Nat × Nat} (hb : w.heap[b]? = some (.cells cur el fz)) (hfz : fz = (0, 0) ∨ cur.size ≤ fz.1) (hfit : o + v.cells.size ≤ cur.size)
    (h1 : ∀ u ∈ v.cells, u.oneCell' = true) : (Instr.storeAt t (.pointer (some ⟨b, o, none⟩)) v).run P w = .ok () (w.setRow b (splice cur o v.cells.toList)) := by
  have hr := run_storeCells_tail P b o el fz v.cells.toList 0 cur w hb hfz (by simpa using hfit) (fun u hu => h1 u (by simpa using hu))
  simp only [Nat.add_zero] at hr
  simp only [Instr.storeAt, Instr.sureAddr, Sem.run_bind, Sem.run_pure, Result.andThen_ok, storeVar, run_sizeOf' hi, hsz, ne_eq, not_true_eq_false, if_false, hr]
  rfl

theorem grown_setRow (w : World) (b : Nat) (c : Array Value) : w.grownBy (w.setRow b c) (some b) := ⟨rfl, rfl, rfl, by simp, fun k _ hk => setRow_other w b k _ (fun e => hk (by simp [e]))⟩

theorem relVs_ofKs {ok : World} : ∀ {ks : List K} {d : D} {n : Nat} {cs : List Value}, cs.length = ks.length → (∀ j, j < ks.length → ∃ v, cs[j]? = some v ∧ RepC P ok G.ok (kget ks j) v (d.cell (n + j))) → RelVs P G s.ob ok (ofKs ks d n) cs
  | [], d, n, [], _, _ => by simp only [ofKs, RelVs]
  | [], d, n, _ :: _, h, _ => by simp at h
  | k :: ks, d, n, [], h, _ => by simp at h
  | k :: ks, d, n, c :: cs, h, hc => by
    simp only [ofKs, RelVs]
    obtain ⟨v, hv, r⟩ := hc 0 (by simp)
    obtain rfl : c = v := by simpa using hv
    refine ⟨relV_ofK r, relVs_ofKs (by simpa using h) fun j hj => ?_⟩
    obtain ⟨v, hv, r⟩ := hc (j + 1) (by simpa using hj)
    exact ⟨v, by simpa using hv, by rw [Nat.add_assoc, Nat.add_comm 1 j]; exact r⟩

/-- A store into a box. -/
theorem store_box [LaidC P] (R : Rel P nt w0 G s a w) {n o : Nat} {v x : V} {t : TypeId} {td : TypeDesc} (hu : P.underlying t = some td) (hx : s.ob n = .box v) {p q : Value} (hp : RelV P G s.ob w (.ref n o) p) (hq : RelV P G s.ob w x q) {c : Option Bool} {ef : Eff}
    (h : storeB P t (aggD td) n o v x = some (c, ef)) :
    ∃ G' w', (Instr.storeAt t p q).run P w = .ok () w' ∧ Rel P nt w0 G' { s with ob := upO (frO s.ob ef.fr) ef.up } a w' := by
  obtain ⟨i, hi⟩ := und_info hu
  simp only [RelV] at hp
  rw [hx] at hp
  obtain ⟨-, b, hη, rfl⟩ := hp
  have hO := R.ob n
  rw [hx] at hO
  obtain ⟨b', el, val, hη', hb, hr⟩ := hO
  rw [hη] at hη'
  obtain rfl : b = b' := by simpa using hη'
  have fin : ∀ {y : V} {val' : Value}, RelV P G s.ob w y val' → ∀ {w'}, w.grownBy w' (some b) → w'.heap[b]? = some (.cells val'.cells el (0, 0)) → ∃ G', Rel P nt w0 G' { s with ob := setF s.ob n (.box y) } a w' := fun hy w' hg hb' => by
    obtain ⟨G', R', -, -⟩ := R.setBox (n := n) (.inr ⟨⟨v, hx⟩, rfl, hη⟩) hg hb' hy
    exact ⟨G', R'⟩
  cases ha : aggD td with
  | false =>
    rw [ha] at h
    unfold storeB at h
    simp only at h
    split at h
    · rename_i hlt hone
      simp only [Bool.and_eq_true] at hone
      have hq1 := relV_one hq hone.1
      have hqc := cells_one hq1
      have hsz : q.cells.size = i.size := by rw [hqc, ← csz_info hi, beq_eq hone.2]; rfl
      have hlt := blt_lt hlt
      have hql : q.cells.toList = [q] := by rw [hqc]
      have store : ∀ {cs : Array Value}, val.cells = cs → o < cs.size → (Instr.storeAt t (.pointer (some ⟨b, o, none⟩)) q).run P w = .ok () (w.setRow b (cs.setIfInBounds o q)) := fun hcs ho => by
        rw [run_storeAt hi hsz hb (.inl rfl) (by rw [hqc, hcs]; show o + 1 ≤ _; omega) (fun u hu => by rw [hqc] at hu; simp at hu; rw [hu]; exact hq1), hql, hcs, splice_one ho]
      obtain ⟨vs, rfl⟩ | ⟨ks, d, rfl⟩ | ⟨hna, hnp⟩ : (∃ vs, v = .agg vs) ∨ (∃ ks d, v = .p ks d) ∨ ((∀ vs, v ≠ .agg vs) ∧ ∀ ks d, v ≠ .p ks d) := by cases v <;> simp
      · obtain ⟨rfl, rfl⟩ := Prod.mk.inj (Option.some.inj h)
        simp only [RelV] at hr
        obtain ⟨cs, rfl, h1, hrs⟩ := hr
        have hl := relVs_len hrs
        have ho : o < cs.size := by simp only [vcount] at hlt; simp at hl; omega
        obtain ⟨G', R'⟩ := fin (y := .agg (lset vs o x)) (val' := .agg (cs.setIfInBounds o q)) (by
          simp only [RelV]
          refine ⟨_, rfl, fun u hu => ?_, by rw [Array.toList_setIfInBounds]; exact relVs_set hrs hq⟩
          rcases Array.mem_or_eq_of_mem_setIfInBounds hu with h | h
          · exact h1 u h
          · rw [h]; exact hq1) (grown_setRow w b _) (setRow_heap w b _ _ el _ hb)
        exact ⟨G', _, store rfl ho, R'⟩
      · obtain ⟨rfl, rfl⟩ := Prod.mk.inj (Option.some.inj h)
        have hr0 := hr
        simp only [RelV] at hr
        obtain ⟨cs, rfl, hs, -, hrs⟩ := hr
        have ho : o < cs.size := by simp only [vcount] at hlt; omega
        obtain ⟨cs', he, -, h1⟩ := relV_ag hr0 rfl
        obtain rfl : cs = cs' := by simpa using he
        obtain ⟨G', R'⟩ := fin (y := .agg (lset (ofKs ks d 0) o x)) (val' := .agg (cs.setIfInBounds o q)) (by
          simp only [RelV]
          refine ⟨_, rfl, fun u hu => ?_, by
            rw [Array.toList_setIfInBounds]
            refine relVs_set (relVs_ofKs (by simpa using hs) fun j hj => ?_) hq
            obtain ⟨v, hv, r⟩ := hrs j hj
            exact ⟨v, by simpa using hv, by rw [Nat.zero_add]; exact r⟩⟩
          rcases Array.mem_or_eq_of_mem_setIfInBounds hu with h | h
          · exact h1 u h
          · rw [h]; exact hq1) (grown_setRow w b _) (setRow_heap w b _ _ el _ hb)
        exact ⟨G', _, store rfl ho, R'⟩
      · have h' : (match v.one with | true => some (none, (⟨.z, [(n, .box x)], []⟩ : Eff)) | false => none) = some (c, ef) := by
          cases v <;> first | exact h | exact absurd rfl (hna _) | exact absurd rfl (hnp _ _)
        split at h'
        · rename_i hv1
          replace h := h'
          obtain ⟨rfl, rfl⟩ := Prod.mk.inj (Option.some.inj h)
          have hvc := cells_one (relV_one hr hv1)
          have ho : o = 0 := by
            cases v <;> simp only [vcount] at hlt <;> first | omega | exact absurd rfl (hna _) | exact absurd rfl (hnp _ _)
          subst ho
          obtain ⟨G', R'⟩ := fin (y := x) (val' := q) hq (grown_setRow w b (#[val].setIfInBounds 0 q)) (by rw [setRow_heap w b _ _ el _ hb, hqc]; rfl)
          exact ⟨G', _, store hvc (by simp), R'⟩
        · cases h'
    · cases h
  | true =>
    rw [ha] at h
    unfold storeB at h
    simp only at h
    split at h
    · rename_i hag hsz
      simp only [Bool.and_eq_true] at hag hsz
      obtain ⟨rfl, rfl⟩ := Prod.mk.inj (Option.some.inj h)
      obtain ⟨cs, rfl, hs, h1⟩ := relV_ag hq hag.1
      obtain ⟨cs0, rfl, hs0, -⟩ := relV_ag hr hag.2
      have e1 := beq_eq hsz.1
      have e2 := beq_eq hsz.2
      obtain ⟨G', R'⟩ := fin (y := x) (val' := .agg cs) hq (grown_setRow w b cs) (setRow_heap w b _ _ el _ hb)
      refine ⟨G', _, ?_, R'⟩
      have hl : cs.size = cs0.size := by omega
      rw [run_storeAt (v := .agg cs) (o := 0) hi (by show cs.size = _; rw [← csz_info hi]; omega) hb (.inl rfl) (by show 0 + cs.size ≤ cs0.size; omega) h1]
      congr 2
      exact splice_all hl
    · cases h

theorem rd_range_map (n : Nat) (f : Nat → D) (j : Nat) (hj : j < n) : rd ((List.range n).map f) j = f j := by
  have h1 : j < ((List.range n).map f).length := by simpa using hj
  have := rd_get h1
  rw [List.getElem?_map, List.getElem?_range hj] at this
  exact (Option.some.inj this).symm

theorem upd_cell (n : Nat) (d : D) (j : Nat) (x : D) (k : Nat) (hk : k < n) : (d.upd n j x).cell k = if k = j then x else d.cell k := by
  simp only [D.upd, D.cell, D.cells]
  rw [rd_range_map _ _ _ hk]
  by_cases h : k = j
  · subst h; simp
  · have : Nat.beq k j = false := by
      cases hb : Nat.beq k j with
      | false => rfl
      | true => exact absurd (beq_eq hb) h
    simp [this, h, D.cell]

/-- One cell of an element is written. -/
theorem elems_cell {e : TypeId} {ok : Nat → Prop} {get get' : Nat → Option Value} {xs : List D} {i j : Nat} {d : D} {q : Value} (hT : okT P e = true) (hi : i < xs.length) (hj : j < csz P e) (hE : Elems P w ok e get xs) (hq : RepC P w ok (kget (cks P e) j) q d)
    (h1 : get' (i * csz P e + j) = some q) (h2 : ∀ k l, k < xs.length → l < csz P e → ¬(k = i ∧ l = j) → get' (k * csz P e + l) = get (k * csz P e + l)) :
    Elems P w ok e get' (xs.set i (match isA P e with | true => (rd xs i).upd (csz P e) j d | false => d)) := by
  intro k hk
  rw [List.length_set] at hk
  rw [rd_set xs i k _ hi]
  by_cases hki : k = i
  · subst hki
    rw [if_pos rfl]
    cases hA : isA P e with
    | true =>
      refine ⟨fun _ => ⟨_, rfl, by simp⟩, fun l hl => ?_⟩
      simp only [D.ecell]
      rw [upd_cell _ _ _ _ _ hl]
      by_cases hlj : l = j
      · subst hlj; rw [if_pos rfl]; exact ⟨q, h1, hq⟩
      · rw [if_neg hlj]
        obtain ⟨v, hv, r⟩ := (hE k hk).2 l hl
        rw [hA] at r
        exact ⟨v, by rw [h2 k l hk hl (by omega)]; exact hv, r⟩
    | false =>
      have := (okT_len hT).2.2 hA
      refine ⟨(fun h => by cases h), fun l hl => ?_⟩
      obtain rfl : l = j := by omega
      exact ⟨q, h1, hq⟩
  · rw [if_neg hki]
    refine ⟨(hE k hk).1, fun l hl => ?_⟩
    obtain ⟨v, hv, r⟩ := (hE k hk).2 l hl
    exact ⟨v, by rw [h2 k l hk hl (by omega)]; exact hv, r⟩


theorem store_arr [LaidC P] (R : Rel P nt w0 G s a w) {n o : Nat} {e : TypeId} {xs : List D} {x : V} {t : TypeId} {td : TypeDesc} (hu : P.underlying t = some td) (hx : s.ob n = .arr e xs) {p q : Value} (hp : RelV P G s.ob w (.ref n o) p) (hq : RelV P G s.ob w x q) {c : Option Bool} {ef : Eff}
    (h : storeA P t (aggD td) n o e xs x = some (c, ef)) (hc : ∀ x, c = some x → x = true) :
    ∃ G' w', (Instr.storeAt t p q).run P w = .ok () w' ∧ Rel P nt w0 G' { s with ob := upO (frO s.ob ef.fr) ef.up } a w' := by
  obtain ⟨i, hi⟩ := und_info hu
  simp only [RelV] at hp
  rw [hx] at hp
  obtain ⟨-, b, hη, rfl⟩ := hp
  have hO := R.ob n
  rw [hx] at hO
  obtain ⟨hT, b', el, cs0, hη', hb, hs0, hE0⟩ := hO
  rw [hη] at hη'
  obtain rfl : b = b' := by simpa using hη'
  unfold storeA at h
  split at h
  · split at h
    · split at h
      · rename_i hk
        simp only [Bool.and_eq_true] at hk
        obtain rfl := beq_eq hk.1
        obtain rfl := beq_eq hk.2.1
        have hsz := beq_eq hk.2.2
        obtain ⟨rfl, rfl⟩ := Prod.mk.inj (Option.some.inj h)
        have hb2 := hc _ rfl
        simp only [Bool.and_eq_true] at hb2
        have e1 := beq_eq hb2.1
        have e2 := beq_eq hb2.2
        simp only [RelV] at hq
        obtain ⟨cs, rfl, hs, -, hE⟩ := hq
        have hl : cs.size = cs0.size := by rw [hs, hs0, e1]
        obtain ⟨G', R', -, -⟩ := R.setArr (n := n) (xs := _) (.inr ⟨⟨xs, hx⟩, rfl, hη⟩) (grown_setRow w b cs) (setRow_heap w b _ _ el _ hb) hT hs hE
        refine ⟨G', _, ?_, R'⟩
        have hpos := (okT_len hT).2.1
        have h1 : ∀ u ∈ cs, u.oneCell' = true := fun u hu => by
          obtain ⟨k, hk, rfl⟩ := Array.mem_iff_getElem.1 hu
          rw [hs] at hk
          obtain ⟨v, hv, r⟩ := (hE (k / csz P e) ((Nat.div_lt_iff_lt_mul hpos).2 hk)).2 (k % csz P e) (Nat.mod_lt _ hpos)
          have hk' : k / csz P e * csz P e + k % csz P e = k := by rw [Nat.mul_comm]; exact Nat.div_add_mod k _
          simp only [hk'] at hv
          rw [Array.getElem?_eq_getElem (by omega)] at hv
          rw [Option.some.inj hv]; exact r.one
        rw [run_storeAt (v := .agg cs) (o := 0) hi (by show cs.size = _; rw [← csz_info hi, hsz, hs, e2]) hb (.inl rfl) (by show 0 + cs.size ≤ cs0.size; omega) h1]
        congr 2
        exact splice_all hl
      · cases h
    · cases h
  · cases h

/-- An element of a row behind a store. -/
theorem store_elem [LaidC P] {t : TypeId} {td : TypeDesc} (hu : P.underlying t = some td) {ob : Nat → O} {n : Nat} {e : TypeId} (hT : okT P e = true) {xs : List D} {i j : Nat} {x : V} {q : Value} {d : D} {l : List Nat} (h : storeE P ob t (aggD td) n e xs i j x = some (d, l))
    (hq : RelV P G (frO ob l) w x q) (hi : i < xs.length) {cur : Array Value} {len : Nat} (hlen : xs.length * csz P e ≤ cur.size) (hE : Elems P w G.ok e (fun k => cur[k]?) xs) :
    n ∉ l ∧ q.cells.size = csz P t ∧ i * csz P e + j + q.cells.size ≤ cur.size ∧ (∀ u ∈ q.cells, u.oneCell' = true) ∧ Elems P w G.ok e (fun k => (splice cur (i * csz P e + j) q.cells.toList)[k]?) (xs.set i d) := by
  have hrow : i * csz P e + csz P e ≤ cur.size := by
    calc i * csz P e + csz P e = (i + 1) * csz P e := by rw [Nat.add_mul]; omega
      _ ≤ xs.length * csz P e := Nat.mul_le_mul_right _ hi
      _ ≤ _ := hlen
  unfold storeE at h
  split at h
  · split at h
    · rename_i d' l' hsz hA ht
      split at h
      · rename_i hm
        obtain ⟨rfl, rfl⟩ := Prod.mk.inj (Option.some.inj h)
        have hev := toT_sound hq (toT_fr ht (fun n h => h))
        have hsz := beq_eq hsz
        have hql : q.cells.toList.length = csz P e := by simp [hev.size]
        refine ⟨(fun h => by rw [mem_iff.2 h] at hm; cases hm), (by rw [hev.size, hsz]), (by rw [hev.size]; omega), hev.one, ?_⟩
        refine elems_set hi hE hev.shape hev.cell (fun k hk => ?_) (fun k m hk hkl hm => ?_)
        · rw [splice_get (by rw [hql]; omega), if_pos (by rw [hql]; omega)]
          simp only [Array.getElem?_toList]
          congr 1; omega
        · have := mul_apart (i := i) hm hk
          rw [splice_get (by rw [hql]; omega), if_neg (by rw [hql]; omega)]
      · cases h
    · cases h
  · split at h
    · rename_i d' l' hj ht
      simp only [Bool.and_eq_true] at hj
      split at h
      · rename_i hm
        obtain ⟨rfl, rfl⟩ := Prod.mk.inj (Option.some.inj h)
        have hr := toC_sound hq (toC_fr ht (fun n h => h))
        have hqc := cells_one hr.one
        have hjl := blt_lt hj.1
        have hql : q.cells.toList = [q] := by rw [hqc]
        refine ⟨(fun h => by rw [mem_iff.2 h] at hm; cases hm), (by rw [hqc, beq_eq hj.2]; rfl), (by rw [hqc]; show _ + 1 ≤ _; omega), (fun u hu => by rw [hqc] at hu; simp at hu; rw [hu]; exact hr.one), ?_⟩
        rw [hql]
        refine elems_cell hT hi hjl hE hr ?_ (fun k m hk hm hne => ?_)
        · rw [splice_get (by show _ + 1 ≤ _; omega), if_pos (by simp)]
          simp
        · rw [splice_get (by show _ + 1 ≤ _; omega), if_neg ?_]
          rintro ⟨h1, h2⟩
          have he : k * csz P e + m = i * csz P e + j := by simp at h2; omega
          apply hne
          have hpos := (okT_len hT).2.1
          have q1 : k = i := by
            have a1 : (k * csz P e + m) / csz P e = k := by rw [Nat.add_comm, Nat.add_mul_div_right _ _ hpos, Nat.div_eq_of_lt hm, Nat.zero_add]
            have a2 : (i * csz P e + j) / csz P e = i := by rw [Nat.add_comm, Nat.add_mul_div_right _ _ hpos, Nat.div_eq_of_lt hjl, Nat.zero_add]
            rw [← a1, he, a2]
          refine ⟨q1, ?_⟩
          rw [q1] at he; omega
      · cases h
    · cases h

theorem elems_list {e : TypeId} {ok : Nat → Prop} {xs : List D} {cur : Array Value} {cl : List Value} (h : cur.toList.take (xs.length * csz P e) = cl) (hE : Elems P w ok e (fun k => cur[k]?) xs) : Elems P w ok e (fun k => cl[k]?) xs := by
  intro i hi
  refine ⟨(hE i hi).1, fun j hj => ?_⟩
  obtain ⟨v, hv, r⟩ := (hE i hi).2 j hj
  refine ⟨v, ?_, r⟩
  simp only at hv ⊢
  have : i * csz P e + j < xs.length * csz P e := by
    calc i * csz P e + j < (i + 1) * csz P e := by rw [Nat.add_mul]; omega
      _ ≤ _ := Nat.mul_le_mul_right _ hi
  rw [← h, List.getElem?_take, if_pos this, Array.getElem?_toList]
  exact hv

theorem storeV_sound [LaidC P] (R : Rel P nt w0 G s a w) {t : TypeId} {td : TypeDesc} (hu : P.underlying t = some td) {X x : V} {p q : Value} (hX : RelV P G s.ob w X p) (hq : RelV P G s.ob w x q) {c : Option Bool} {ef : Eff}
    (h : storeV P s.ob t (aggD td) X x = some (c, ef)) (hc : ∀ x, c = some x → x = true) :
    ∃ G' w', (Instr.storeAt t p q).run P w = .ok () w' ∧ Rel P nt w0 G' { s with ob := upO (frO s.ob ef.fr) ef.up } a w' := by
  obtain ⟨it, hit⟩ := und_info hu
  unfold storeV at h
  split at h
  · rename_i n o
    split at h
    · rename_i v hx
      exact store_box R hu hx hX hq h
    · rename_i e xs hx
      exact store_arr R hu hx hX hq h hc
    · cases h
  · rename_i n g i j
    split at h
    · rename_i e xs g' hx
      split at h
      · rename_i hg
        obtain rfl := beq_eq hg
        split at h
        · rename_i d l hst
          obtain ⟨rfl, rfl⟩ := Prod.mk.inj (Option.some.inj h)
          have hi := blt_lt (hc _ rfl)
          obtain ⟨G1, R1, h1⟩ := R.freeze l
          have hq1 := h1 _ _ hq
          have hX1 := h1 _ _ hX
          -- the row is not among what is given away
          have hnl : n ∉ l := by
            unfold storeE at hst
            intro hn
            have hm := mem_iff.2 hn
            repeat' split at hst
            all_goals first
              | (cases hst; done)
              | (obtain ⟨-, rfl⟩ := Prod.mk.inj (Option.some.inj hst); simp_all; done)
          have hx1 : frO s.ob l n = .row e xs g := by rw [frO_get, if_neg hnl, hx]
          have hO := R1.ob n
          simp only at hO
          rw [hx1] at hO
          obtain ⟨hT, cl, ho, hE⟩ := hO
          simp only [RelV] at hX1
          rw [hx1] at hX1
          obtain ⟨-, -, hX1⟩ := hX1
          obtain ⟨b, len, cap, hη, rfl⟩ := hX1 rfl
          rw [hη] at ho
          rcases ho.2 with ⟨h', _⟩ | ⟨b', cap', cur, fz, h', -, hb, hfz, hnc, hcm, hcs, htake⟩
          · simp at h'
          · simp only [Value.slice.injEq, Option.some.injEq, Addr.mk.injEq, and_true, true_and] at h'
            obtain ⟨rfl, rfl, rfl⟩ := h'
            have hlen : xs.length * csz P e ≤ cur.size := by rw [hcs]; exact Nat.mul_le_mul_right _ hnc
            have hEc : Elems P w G1.ok e (fun k => cur[k]?) xs := by simpa using elems_take rfl htake hE
            obtain ⟨-, k1, k2, k3, k4⟩ := store_elem (len := 0) hu hT hst hq1 hi hlen hEc
            have hw := setRow_heap w b cur (splice cur (i * csz P e + j) q.cells.toList) e _ hb
            have hss : (splice cur (i * csz P e + j) q.cells.toList).size = cur.size := splice_size (by simpa using k2)
            obtain ⟨G', R', -, -⟩ := R1.setRow (n := n) (xs' := xs.set i d) (g' := g) (v := G1.η n) (.inr ⟨xs, g, hx1, .inr ⟨rfl, by simp, rfl⟩⟩) hT (grown_setRow w b (splice cur (i * csz P e + j) q.cells.toList)) (fun c h => by rw [hη]; simpa [blk] using h) (fun c h => .inl h)
              (cl := (splice cur (i * csz P e + j) q.cells.toList).toList.take (xs.length * csz P e))
              (by
                rw [hη, List.length_set]
                refine ⟨?_, .inr ⟨b, cap, _, fz, rfl, Nat.zero_le _, hw, by rw [hss]; exact hfz, hnc, hcm, by rw [hss, hcs], rfl⟩⟩
                have hsl : (splice cur (i * csz P e + j) q.cells.toList).toList.length = cur.size := by simpa using hss
                rw [List.length_take, hsl]
                omega)
              (elems_list (xs := xs.set i d) (by rw [List.length_set]) k4)
            exact ⟨G', _, run_storeAt hit (by rw [k1, csz_info hit]) hb (hfz.imp id And.right) k2 k3, R'⟩
        · cases h
      · cases h
    · rename_i e xs hx
      split at h
      · rename_i d l hst
        obtain ⟨rfl, rfl⟩ := Prod.mk.inj (Option.some.inj h)
        have hi := blt_lt (hc _ rfl)
        obtain ⟨G1, R1, h1⟩ := R.freeze l
        have hq1 := h1 _ _ hq
        have hX1 := h1 _ _ hX
        have hx1 : frO s.ob l n = .arr e xs := by rw [frO_get, hx]; split <;> rfl
        have hO := R1.ob n
        simp only at hO
        rw [hx1] at hO
        obtain ⟨hT, b', el, cur, hη', hb, hs, hE⟩ := hO
        simp only [RelV] at hX1
        rw [hx1] at hX1
        obtain ⟨-, b, hη, rfl⟩ := hX1
        rw [hη] at hη'
        obtain rfl : b = b' := by simpa using hη'
        obtain ⟨-, k1, k2, k3, k4⟩ := store_elem (len := 0) hu hT hst hq1 hi (by rw [hs]; exact Nat.le_refl _) hE
        have hss : (splice cur (i * csz P e + j) q.cells.toList).size = cur.size := splice_size (by simpa using k2)
        obtain ⟨G', R', -, -⟩ := R1.setArr (n := n) (xs := xs.set i d) (.inr ⟨⟨xs, hx1⟩, rfl, hη⟩) (grown_setRow w b _) (setRow_heap w b cur _ el _ hb) hT (by rw [hss, hs, List.length_set]) k4
        exact ⟨G', _, run_storeAt hit (by rw [k1, csz_info hit]) hb (.inl rfl) k2 k3, R'⟩
      · cases h
    · cases h
  · cases h

theorem copyV_sound [LaidC P] (R : Rel P nt w0 G s a w) {t u ty : TypeId} {X Y : V} {p q : Value} (hX : RelV P G s.ob w X p) (hY : RelV P G s.ob w Y q) {c : Option Bool} {ef : Eff}
    (h : copyV P s.ob t X Y = some (c, ef)) (hc : ∀ x, c = some x → x = true) : Done P nt w0 s a ((Builtin.copy_ #[t, u] ty #[p, q]).run P w) ef := by
  unfold copyV at h
  split at h
  · rename_i e ht
    split at h
    · rename_i n g lo hi ys hT hys
      split at h
      · rename_i e' xs g' hx
        split at h
        · rename_i he
          simp only [Bool.and_eq_true] at he
          obtain rfl := beq_eq he.1
          obtain rfl := beq_eq he.2
          obtain ⟨rfl, rfl⟩ := Prod.mk.inj (Option.some.inj h)
          have hfit : ys.length ≤ hi - lo := Nat.le_of_ble_eq_true (hc _ rfl)
          obtain ⟨news, src, hEn⟩ := elemsV_src R.ob hT hY hys
          obtain ⟨i, hi', hsz⟩ := okT_info hT
          have hO := R.ob n
          rw [hx] at hO
          obtain ⟨-, cl, ho, hE⟩ := hO
          simp only [RelV] at hX
          rw [hx] at hX
          obtain ⟨-, -, hX⟩ := hX
          obtain ⟨hlh, hhx, hV⟩ := hX rfl
          have hpos := (okT_len hT).2.1
          have hself : setF s.ob n (.row e xs g) = s.ob := by
            funext m; rw [setF_get]; split
            · rename_i e'; rw [e', hx]
            · rfl
          by_cases h0 : ys = []
          · subst h0
            have hn0 : news = [] := List.eq_nil_of_length_eq_zero (by rw [src.size]; simp)
            have hcells := src.cells w rfl
            have hlen := src.len w
            rw [hn0] at hcells
            refine ⟨G, goInt 0, w, ?_, ?_, by simp only [RelV]; rfl⟩
            · rcases ho.2 with ⟨hv, -⟩ | ⟨b, cap, cur, _, hv, -⟩
              · rw [hv] at hV
                obtain rfl : p = .slice none 0 0 := hV
                simp only [List.length_nil] at hlen hcells
                simp [Builtin.copy_, run_underlying ht, hlen, run_sizeOf' hi', ← hsz, hcells]
              · rw [hv] at hV
                obtain ⟨off, cap', rfl, -, -⟩ := hV
                simp only [List.length_nil] at hlen hcells
                simp [Builtin.copy_, run_underlying ht, hlen, run_sizeOf' hi', ← hsz, hcells, storeCells]
            · have : xs.take lo ++ (([] : List D) ++ xs.drop (lo + ([] : List D).length)) = xs := by simp
              simp only [upO, frO]
              rw [this, hself]
              exact R
          · have hyl : 0 < ys.length := List.length_pos_iff.2 h0
            rcases ho.2 with ⟨hv, hl⟩ | ⟨b, cap, cur, fz, hv, -, hb, hfz, hnc, hcm, hcs, htake⟩
            · omega
            rw [hv] at hV
            obtain ⟨off, cap', rfl, hoff, -⟩ := hV
            have hoff := hoff (by omega)
            have hEc : Elems P w G.ok e (fun k => cur[k]?) xs := by simpa using elems_take rfl htake hE
            have hlo : lo + ys.length ≤ xs.length := by omega
            have hnl : news.length = ys.length * csz P e := src.size
            have hmul : (lo + ys.length) * csz P e ≤ cap * csz P e := Nat.mul_le_mul_right _ (by omega)
            have hfit2 : lo * csz P e + news.length ≤ cur.size := by rw [hnl, hcs, ← Nat.add_mul]; exact hmul
            have hst := run_storeCells_tail P b off e fz news 0 cur w hb (hfz.imp id And.right) (by rw [hoff]; simpa using hfit2) src.one
            simp only [Nat.add_zero] at hst
            have hcells := src.cells w rfl
            have hlen := src.len w
            have hmin : Nat.min ys.length (hi - lo) = ys.length := Nat.min_eq_left hfit
            have hw := setRow_heap w b cur (splice cur (lo * csz P e) news) e _ hb
            have hss : (splice cur (lo * csz P e) news).size = cur.size := splice_size hfit2
            have hxl : (xs.take lo ++ (ys ++ xs.drop (lo + ys.length))).length = xs.length := by
              simp only [List.length_append, List.length_take, List.length_drop]; omega
            have hEn' : Elems P w G.ok e (fun k => (splice cur (lo * csz P e) news)[k]?) (xs.take lo ++ (ys ++ xs.drop (lo + ys.length))) := by
              intro k hk
              rw [hxl] at hk
              have htl : (xs.take lo).length = lo := by rw [List.length_take]; omega
              have hge : ∀ {m j : Nat}, j < csz P e → (splice cur (lo * csz P e) news)[m * csz P e + j]? = if lo ≤ m ∧ m < lo + ys.length then news[(m - lo) * csz P e + j]? else cur[m * csz P e + j]? := by
                intro m j hj
                rw [splice_get hfit2, hnl, ← Nat.add_mul]
                by_cases h1 : lo ≤ m ∧ m < lo + ys.length
                · have a1 : lo * csz P e ≤ m * csz P e := Nat.mul_le_mul_right _ h1.1
                  have a2 : m * csz P e + j < (lo + ys.length) * csz P e := by
                    calc m * csz P e + j < (m + 1) * csz P e := by rw [Nat.add_mul]; omega
                      _ ≤ _ := Nat.mul_le_mul_right _ (by omega)
                  rw [if_pos h1, if_pos ⟨by omega, a2⟩]
                  congr 1
                  have : m * csz P e = (m - lo) * csz P e + lo * csz P e := by rw [← Nat.add_mul]; congr 1; omega
                  omega
                · rw [if_neg h1, if_neg]
                  rintro ⟨b1, b2⟩
                  apply h1
                  constructor
                  · apply Classical.byContradiction
                    intro hlt
                    have : (m + 1) * csz P e ≤ lo * csz P e := Nat.mul_le_mul_right _ (by omega)
                    rw [Nat.add_mul] at this; omega
                  · apply Classical.byContradiction
                    intro hlt
                    have : (lo + ys.length) * csz P e ≤ m * csz P e := Nat.mul_le_mul_right _ (by omega)
                    omega
              rw [rd_append, htl]
              by_cases k1 : k < lo
              · rw [if_pos k1, rd_take _ _ _ k1]
                obtain ⟨q1, q2⟩ := hEc k hk
                refine ⟨q1, fun j hj => ?_⟩
                obtain ⟨v, hv', r⟩ := q2 j hj
                exact ⟨v, by simp only; rw [hge hj, if_neg (by omega)]; exact hv', r⟩
              · rw [if_neg k1, rd_append]
                by_cases k2 : k - lo < ys.length
                · rw [if_pos k2]
                  obtain ⟨q1, q2⟩ := hEn (k - lo) k2
                  refine ⟨q1, fun j hj => ?_⟩
                  obtain ⟨v, hv', r⟩ := q2 j hj
                  exact ⟨v, by simp only; rw [hge hj, if_pos ⟨by omega, by omega⟩]; exact hv', r⟩
                · rw [if_neg k2, rd_drop, show lo + ys.length + (k - lo - ys.length) = k by omega]
                  obtain ⟨q1, q2⟩ := hEc k hk
                  refine ⟨q1, fun j hj => ?_⟩
                  obtain ⟨v, hv', r⟩ := q2 j hj
                  exact ⟨v, by simp only; rw [hge hj, if_neg (by omega)]; exact hv', r⟩
            obtain ⟨G', R', -, -⟩ := R.setRow (n := n) (xs' := xs.take lo ++ (ys ++ xs.drop (lo + ys.length))) (g' := g) (v := G.η n) (.inr ⟨xs, g, hx, .inr ⟨rfl, hxl, rfl⟩⟩) hT (grown_setRow w b (splice cur (lo * csz P e) news)) (fun c h => by rw [hv]; simpa [blk] using h) (fun c h => .inl h)
              (cl := (splice cur (lo * csz P e) news).toList.take (xs.length * csz P e))
              (by
                rw [hv, hxl]
                refine ⟨?_, .inr ⟨b, cap, _, fz, rfl, Nat.zero_le _, hw, by rw [hss]; exact hfz, hnc, hcm, by rw [hss, hcs], rfl⟩⟩
                have hsl : (splice cur (lo * csz P e) news).toList.length = cur.size := by simpa using hss
                have : xs.length * csz P e ≤ cap * csz P e := Nat.mul_le_mul_right _ hnc
                rw [List.length_take, hsl]
                omega)
              (elems_list (xs := xs.take lo ++ (ys ++ xs.drop (lo + ys.length))) (by rw [hxl]) hEn')
            refine ⟨G', goInt ys.length, w.setRow b (splice cur (lo * csz P e) news), ?_, R', by simp only [RelV]; rfl⟩
            rw [← hoff] at *
            simp [Builtin.copy_, run_underlying ht, hlen, run_sizeOf' hi', ← hsz, hcells, hmin, hst, splice]
        · cases h
      · cases h
    · cases h
  · cases h

end Go.Pv

namespace Go.Pv
open RowKit Lib
variable {P : Program} {G G' : Gh} {w w' w0 : World} {nt : Cx} {s : St} {a : Act}

/-- What the machine does at an operation that makes or writes. -/
def DoneN (P : Program) [LaidC P] (nt : Cx) (w0 : World) (s : St) (a : Act) (r : Result Next) (ef : Eff) : Prop :=
  ∃ G' u w', (r = .ok (.value u) w' ∨ (r = .ok .skip w' ∧ u = undef)) ∧ Rel P nt w0 G' { s with ob := upO (frO s.ob ef.fr) ef.up } a w' ∧ RelV P G' (upO (frO s.ob ef.fr) ef.up) w' ef.v u

theorem done_v [LaidC P] {x : Sem Value} {ef : Eff} (h : Done P nt w0 s a (x.run P w) ef) : DoneN P nt w0 s a ((do pure (Next.value (← x)) : Sem Next).run P w) ef := by
  obtain ⟨G', u, w', hr, R', r⟩ := h
  exact ⟨G', u, w', .inl (run_v hr), R', r⟩

theorem opEq_eq {x y : Operand} (h : opEq x y = true) : x = y := by
  cases x <;> cases y <;> simp only [opEq, Bool.false_eq_true] at h
  rw [beq_eq h]

theorem relV_zeroV {t : TypeId} {v : V} (h : zeroV P t = some v) : ∃ i z, P.info? t = some i ∧ i.zero = some z ∧ ∀ (G : Gh) (ob : Nat → O) (w : World), RelV P G ob w v z := by
  unfold zeroV at h
  split at h
  · rename_i i hi
    split at h
    · rename_i cs hz _
      split at h
      · rename_i hone
        obtain rfl := Option.some.inj h
        refine ⟨i, _, hi, hz, fun G ob w => ?_⟩
        simp only [RelV]
        refine ⟨cs, rfl, fun u hu => List.all_eq_true.1 hone u (by simpa using hu), ?_⟩
        clear hone hz h
        induction cs.toList with
        | nil => simp only [List.map_nil, RelVs]
        | cons a l ih => simp only [List.map_cons, RelVs]; exact ⟨relV_cV a, ih⟩
      · cases h
    · cases h
    · rename_i v' hz _ _
      obtain rfl := Option.some.inj h
      exact ⟨i, _, hi, by assumption, fun G ob w => relV_cV _⟩
    · cases h
  · cases h

/-- What is asked of an operation. -/
def EffOk (P : Program) [LaidC P] (op : Op) : Prop := ∀ {nt : Cx} {w0 : World} {G : Gh} {s : St} {a : Act} {w : World}, Rel P nt w0 G s a w → ∀ {val : Operand → V} {ρ : Operand → Value}, (∀ x, RelV P G s.ob w (val x) (ρ x)) → (∀ c, ρ (.const c) = c) → ∀ {d : Nat} {o : Oper} {c : Option Bool} {ef : Eff}, o.op = op →
    effOp P s.ob d val op = some (c, ef) → (∀ x, c = some x → x = true) → DoneN P nt w0 s a ((execOp ρ o).run P w) ef

theorem eff_box [LaidC P] (t : TypeId) (x : Operand) : EffOk P (.box t x) := by
  intro nt w0 G s a w R val ρ hv hconst d o c ef ho h hc
  obtain ⟨dst, op, type, pos, after, guard⟩ := o
  obtain rfl : op = _ := ho
  simp only [effOp] at h
  split at h
  · rename_i e xs hn hx
    obtain ⟨rfl, rfl⟩ := Prod.mk.inj (Option.some.inj h)
    exact done_v (x := Instr.box t (ρ x)) ((box_sound R (isNone_eq hn) (x := val x) (hv x) t).1 e xs hx)
  · rename_i hn _
    obtain ⟨rfl, rfl⟩ := Prod.mk.inj (Option.some.inj h)
    exact done_v (x := Instr.box t (ρ x)) (box_sound R (isNone_eq (by assumption)) (x := val x) (hv x) t).2
  · cases h

theorem eff_store [LaidC P] (t : TypeId) (x y : Operand) : EffOk P (.store t x y) := by
  intro nt w0 G s a w R val ρ hv hconst d o c ef ho h hc
  obtain ⟨dst, op, type, pos, after, guard⟩ := o
  obtain rfl : op = _ := ho
  simp only [effOp] at h
  split at h
  · rename_i td hu
    obtain ⟨G', w', hr, R'⟩ := storeV_sound R hu (hv x) (hv y) h hc
    refine ⟨G', undef, w', .inr ⟨?_, rfl⟩, R', ?_⟩
    · simp only [execOp, Sem.run_bind, hr, Result.andThen_ok, Sem.run_pure]
    · have hz : ef.v = .z := by
        clear R' hr R hv
        unfold storeV storeB storeA at h
        repeat' split at h
        all_goals first
          | (cases h; done)
          | (obtain ⟨-, rfl⟩ := Prod.mk.inj (Option.some.inj h); rfl)
      rw [hz]; simp only [RelV]
  · cases h

theorem eff_makeMap [LaidC P] (t : TypeId) : EffOk P (.makeMap t none) := by
  intro nt w0 G s a w R val ρ hv hconst d o c ef ho h hc
  obtain ⟨dst, op, type, pos, after, guard⟩ := o
  obtain rfl : op = _ := ho
  simp only [effOp] at h
  split at h
  · rename_i k e hn hu
    split at h
    · obtain ⟨rfl, rfl⟩ := Prod.mk.inj (Option.some.inj h)
      obtain ⟨G', R', hη, hm⟩ := R.setMap (n := 1024 * d) (k := k) (e := e) (l := []) (.inl ⟨isNone_eq hn, rfl, Nat.le_refl _⟩) (World.grownBy_alloc w (.map #[] 0) none) (World.ownsMap_made w P k _)
      refine done_v (x := Instr.makeMap t none) ⟨G', _, _, run_makeMap t w, R', ?_⟩
      simp only [upO, frO, RelV, setF_get, if_true]; exact ⟨rfl, _, hη, rfl⟩
    · cases h
  · cases h

theorem eff_mapUpdate [LaidC P] (t : TypeId) (m x y : Operand) : EffOk P (.mapUpdate t m x y) := by
  intro nt w0 G s a w R val ρ hv hconst d o c ef ho h hc
  obtain ⟨dst, op, type, pos, after, guard⟩ := o
  obtain rfl : op = _ := ho
  simp only [effOp, putV] at h
  have hm := hv m
  split at h
  · rename_i k e n hu hmv
    rw [hmv] at hm
    split at h
    · rename_i k' e' l hx
      split at h
      · rename_i kd c1 vd c2 ht h1 h2
        simp only [Bool.and_eq_true] at ht
        obtain ⟨q1, q2, q3, q4⟩ := ht
        obtain rfl := beq_eq q1
        obtain rfl := beq_eq q2
        obtain ⟨rfl, rfl⟩ := Prod.mk.inj (Option.some.inj h)
        have hcc := hc _ rfl
        simp only [Bool.and_eq_true] at hcc
        obtain ⟨rfl, rfl, hlen⟩ := hcc
        obtain ⟨K, hkey, -⟩ := litOf_sound (hv x) h1
        obtain ⟨-, -, hval⟩ := litOf_sound (hv y) h2
        have hO := R.ob n
        rw [hx] at hO
        obtain ⟨b, hη, hown⟩ := hO
        simp only [RelV] at hm
        rw [hx] at hm
        obtain ⟨-, b', hb', hp⟩ := hm
        obtain rfl : b = b' := by rw [hη] at hb'; simpa using hb'
        obtain ⟨w', hrun, hown', hg⟩ := hown.update K hu (by have := blt_lt hlen; simp only [lim] at this; simp only [maxLen]; omega) hkey hval
        obtain ⟨G', R', -, -⟩ := R.setMap (n := n) (l := (kd, vd) :: l) (.inr ⟨⟨l, hx⟩, rfl, hη⟩) hg hown'
        refine ⟨G', undef, w', .inr ⟨?_, rfl⟩, R', by simp only [RelV]⟩
        simp only [execOp, hp, Sem.run_bind, hrun, Result.andThen_ok, Sem.run_pure]
      · cases h
    · cases h
  · cases h

theorem eff_alloc [LaidC P] (t : TypeId) : EffOk P (.alloc t) := by
  intro nt w0 G s a w R val ρ hv hconst d o c ef ho h hc
  obtain ⟨dst, op, type, pos, after, guard⟩ := o
  obtain rfl : op = _ := ho
  simp only [effOp] at h
  split at h
  · rename_i m e hn hu
    split at h
    · rename_i z hz hza
      obtain ⟨rfl, rfl⟩ := Prod.mk.inj (Option.some.inj h)
      obtain ⟨i, cs, hi, hzero, hsz, hT, hone, hE⟩ := zeroArr_sound hz hza
      have hx : RelV P G s.ob w (.arr e (List.replicate m z)) (.agg cs) := by
        simp only [RelV]
        exact ⟨cs, rfl, by simpa using hsz, hT, hE G w⟩
      have hb := (box_sound R (isNone_eq hn) hx t).1 e _ rfl
      refine done_v (x := Instr.alloc t true (.tuple #[])) ?_
      have hr : (Instr.alloc t true (.tuple #[])).run P w = .ok (.pointer (some ⟨w.heap.size, 0, none⟩)) (w.alloc (.cells (Value.agg cs).cells t)) := by
        simp [Instr.alloc, zeroValue, typeInfo, hi, hzero, run_newVar]
      rw [hr]; exact hb
    · cases h
  · split at h
    · rename_i hbz
      obtain ⟨rfl, rfl⟩ := Prod.mk.inj (Option.some.inj h)
      obtain ⟨i, hi, hzero⟩ : ∃ i, P.info? t = some i ∧ i.zero = some (.agg #[.pointer none, .slice none 0 0]) := by
        unfold bdZ at hbz
        split at hbz
        · rename_i i hu' hi
          split at hbz
          · rename_i cs hcs
            split at hbz
            · rename_i hl
              refine ⟨i, hi, ?_⟩
              rw [hcs]
              congr 2
              apply Array.toList_inj.1
              rw [hl]
            · cases hbz
          · cases hbz
        · cases hbz
      have hb := bd_sound R (n := 1024 * d) (isNone_eq (by assumption)) t
      refine done_v (x := Instr.alloc t true (.tuple #[])) ?_
      have hr : (Instr.alloc t true (.tuple #[])).run P w = .ok (.pointer (some ⟨w.heap.size, 0, none⟩)) (w.alloc (.cells #[.pointer none, .slice none 0 0] t)) := by
        simp [Instr.alloc, zeroValue, typeInfo, hi, hzero, run_newVar, Value.cells]
      rw [hr]; exact hb
    split at h
    · rename_i v hz
      obtain ⟨rfl, rfl⟩ := Prod.mk.inj (Option.some.inj h)
      obtain ⟨i, zv, hi, hzero, hr⟩ := relV_zeroV hz
      have hb := (box_sound R (isNone_eq (by assumption)) (hr G s.ob w) t).2
      refine done_v (x := Instr.alloc t true (.tuple #[])) ?_
      have hr : (Instr.alloc t true (.tuple #[])).run P w = .ok (.pointer (some ⟨w.heap.size, 0, none⟩)) (w.alloc (.cells zv.cells t)) := by
        simp [Instr.alloc, zeroValue, typeInfo, hi, hzero, run_newVar]
      rw [hr]; exact hb
    · cases h
  · cases h

theorem eff_buildSlice [LaidC P] (t : TypeId) (len : Nat) (parts : Array (Nat × Operand)) : EffOk P (.buildSlice t len parts) := by
  intro nt w0 G s a w R val ρ hv hconst d o c ef ho h hc
  obtain ⟨dst, op, type, pos, after, guard⟩ := o
  obtain rfl : op = _ := ho
  simp only [effOp] at h
  split at h
  · rename_i e hn hu
    split at h
    · rename_i z hz hlen
      split at h
      · rename_i ds l hf
        obtain ⟨rfl, rfl⟩ := Prod.mk.inj (Option.some.inj h)
        simp only [execOp]
        exact done_v (buildSlice_sound R (isNone_eq hn) hu hz (Nat.le_of_ble_eq_true hlen) hv hf)
      · cases h
    · cases h
  · cases h

theorem eff_makeSlice [LaidC P] (t : TypeId) (l c' : Operand) : EffOk P (.makeSlice t l c') := by
  intro nt w0 G s a w R val ρ hv hconst d o c ef ho h hc
  obtain ⟨dst, op, type, pos, after, guard⟩ := o
  obtain rfl : op = _ := ho
  simp only [effOp] at h
  split at h
  · rename_i e hn hu
    split at h
    · rename_i z hz hb
      have hb' : ∃ i, P.info? e = some i ∧ i.bytes ≤ 128 := by
        split at hb
        · rename_i i hi; exact ⟨i, hi, by simpa using hb⟩
        · cases hb
      obtain ⟨i, hi, hb'⟩ := hb'
      have hc' := hv c'
      split at h
      · rename_i k n heq hcv
        obtain ⟨rfl, rfl⟩ := Prod.mk.inj (Option.some.inj h)
        obtain rfl := opEq_eq heq
        rw [hcv] at hc'
        simp only [RelV] at hc'
        have hcc := hc _ rfl
        simp only [Bool.and_eq_true, decide_eq_true_eq] at hcc
        refine done_v (x := Instr.makeSlice t (ρ l) (ρ l)) ?_
        rw [hc']
        exact (makeSlice_sound R (isNone_eq hn) hu hz hi hb' k k hcc.1 hcc.2).1
      · rename_i k n heq hz0 hcv
        obtain ⟨rfl, rfl⟩ := Prod.mk.inj (Option.some.inj h)
        rw [hcv] at hc'
        simp only [RelV] at hc'
        have hcc := hc _ rfl
        simp only [Bool.and_eq_true, decide_eq_true_eq] at hcc
        have hl : ∃ kl, l = .const (.int kl 0) := by
          unfold isZeroC at hz0
          split at hz0
          · rename_i kl m
            have : m = 0 := by simpa using hz0
            exact ⟨kl, by rw [this]⟩
          · cases hz0
        obtain ⟨kl, rfl⟩ := hl
        have hl' : ρ (.const (.int kl 0)) = .int kl 0 := hconst _
        refine done_v (x := Instr.makeSlice t (ρ (.const (.int kl 0))) (ρ c')) ?_
        rw [hl', hc']
        exact (makeSlice_sound R (isNone_eq hn) hu hz hi hb' kl k hcc.1 hcc.2).2
      · cases h
    · cases h
  · cases h

theorem eff_convert [LaidC P] (src dst' : TypeId) (x : Operand) : EffOk P (.convert src dst' x) := by
  intro nt w0 G s a w R val ρ hv hconst d o c ef ho h hc
  obtain ⟨dst, op, type, pos, after, guard⟩ := o
  obtain rfl : op = _ := ho
  simp only [effOp] at h
  split at h
  · rename_i e x' hs hd hx
    split at h
    · rename_i he hT
      split at h
      · rename_i hn
        obtain ⟨rfl, rfl⟩ := Prod.mk.inj (Option.some.inj h)
        have hx' := hv x
        rw [hx] at hx'
        simp only [RelV] at hx'
        refine done_v (x := convert src dst' (ρ x)) ?_
        rw [hx']
        have hcc := hc _ rfl
        simp only [decide_eq_true_eq] at hcc
        exact bytes_sound R (isNone_eq hn) hs hd he hT x' (by simp only [maxS, maxLen] at hcc ⊢; omega)
      · cases h
    · cases h
  · rename_i e n g hs hx
    split at h
    · rename_i hsd
      obtain rfl := beq_eq hsd
      split at h
      · rename_i e' xs g' hob
        split at h
        · rename_i he hb
          simp only [Bool.and_eq_true] at hb
          obtain ⟨hb2, hb3, hb4⟩ := hb
          obtain rfl := beq_eq hb2
          obtain rfl := beq_eq hb3
          obtain ⟨rfl, rfl⟩ := Prod.mk.inj (Option.some.inj h)
          have hx' := hv x
          rw [hx] at hx'
          refine done_v (x := convert src src (ρ x)) ?_
          exact mark_sound R hs he hx' hob hb4 (blt_lt (hc _ rfl))
        · cases h
      · cases h
    · cases h
  · cases h

theorem eff_append [LaidC P] (args : Array Operand) (argTypes : Array TypeId) : EffOk P (.call { callee := .builtin .append, args, argTypes }) := by
  intro nt w0 G s a w R val ρ hv hconst d o c ef ho h hc
  obtain ⟨dst, op, type, pos, after, guard⟩ := o
  obtain rfl : op = _ := ho
  simp only [effOp] at h
  split at h
  · rename_i x y t u ha hat
    have ea : args = #[x, y] := Array.toList_inj.1 (by rw [ha])
    have et : argTypes = #[t, u] := Array.toList_inj.1 (by rw [hat])
    have key : ∀ td, P.underlying u = some td → StrSl td → appendV P s.ob d t (val x) (val y) = some (c, ef) → DoneN P nt w0 s a ((execOp ρ ⟨dst, .call { callee := .builtin .append, args, argTypes }, type, pos, after, guard⟩).run P w) ef := by
      intro td hu htd h
      obtain ⟨G', v, w', hr, R', r⟩ := appendV_sound (ty := type) R hu htd (hv x) (hv y) h hc
      subst ea; subst et
      exact ⟨G', v, w', .inl (by simp [execOp, resolve, invoke, builtin, hr]), R', r⟩
    split at h
    · rename_i hu; exact key _ hu (.inl rfl) h
    · rename_i e hu; exact key _ hu (.inr ⟨e, rfl⟩) h
    · cases h
  · cases h

theorem eff_copy [LaidC P] (args : Array Operand) (argTypes : Array TypeId) : EffOk P (.call { callee := .builtin .copy, args, argTypes }) := by
  intro nt w0 G s a w R val ρ hv hconst d o c ef ho h hc
  obtain ⟨dst, op, type, pos, after, guard⟩ := o
  obtain rfl : op = _ := ho
  simp only [effOp] at h
  split at h
  · rename_i x y t u ha hat
    have ea : args = #[x, y] := Array.toList_inj.1 (by rw [ha])
    have et : argTypes = #[t, u] := Array.toList_inj.1 (by rw [hat])
    obtain ⟨G', v, w', hr, R', r⟩ := copyV_sound (u := u) (ty := type) R (hv x) (hv y) h hc
    subst ea; subst et
    exact ⟨G', v, w', .inl (by simp [execOp, resolve, invoke, builtin, hr]), R', r⟩
  · cases h

theorem effOp_sound [LaidC P] (op : Op) : EffOk P op := by
  intro nt w0 G s a w R val ρ hv hconst d o c ef ho h hc
  have h' := h
  unfold effOp at h
  split at h
  · exact eff_box _ _ R hv hconst ho h' hc
  · exact eff_makeMap _ R hv hconst ho h' hc
  · exact eff_mapUpdate _ _ _ _ R hv hconst ho h' hc
  · exact eff_store _ _ _ R hv hconst ho h' hc
  · exact eff_alloc _ R hv hconst ho h' hc
  · exact eff_buildSlice _ _ _ R hv hconst ho h' hc
  · exact eff_makeSlice _ _ _ R hv hconst ho h' hc
  · exact eff_convert _ _ _ R hv hconst ho h' hc
  · exact eff_append _ _ R hv hconst ho h' hc
  · exact eff_copy _ _ R hv hconst ho h' hc
  · cases h

end Go.Pv

namespace Go.Pv
open RowKit
variable {P : Program} {G G' : Gh} {w w' w0 : World} {nt : Cx} {s : St} {a : Act}

def Good (P : Program) [LaidC P] (nt : Cx) (w0 : World) (s : St) (a : Act) (w : World) : Prop := ∃ G, Rel P nt w0 G s a w

theorem inCh_iff {t : Nat} {b : Bool} : ∀ {g : List (Nat × Bool)}, inCh g t b = true → (t, b) ∈ g
  | [], h => by cases h
  | (t', b') :: r, h => by
    simp only [inCh, Bool.or_eq_true, Bool.and_eq_true] at h
    rcases h with ⟨h1, h2⟩ | h
    · obtain rfl := beq_eq h1
      have : b' = b := by cases b' <;> cases b <;> first | rfl | cases h2
      rw [this]; exact List.mem_cons_self ..
    · exact List.mem_cons_of_mem _ (inCh_iff h)

/-- The tests of a chain came out so. -/
def ChOk (a : Act) (g : List (Nat × Bool)) : Prop := ∀ t b, (t, b) ∈ g → a.tmps.getD t undef = .bool b

theorem val_sound [LaidC P] (R : Rel P nt w0 G s a w) {g : List (Nat × Bool)} (hg : ChOk a g) (x : Operand) : RelV P G s.ob w (s.val g x) (a.eval x) := by
  cases x with
  | tmp t =>
    simp only [St.val, Act.eval]
    cases h : s.ge t with
    | none => exact R.env t h
    | some q =>
      obtain ⟨j, b, v⟩ := q
      simp only
      cases hi : inCh g j b with
      | true => exact (R.ge t j b v h).1 (hg j b (inCh_iff hi))
      | false => simp only [RelV]
  | const c => exact relV_cV c
  | global n => simp only [St.val, RelV]
  | func f => simp only [St.val, Act.eval, RelV, RelVs]; exact ⟨#[], rfl, trivial⟩

theorem knL_ok [LaidC P] (R : Rel P nt w0 G s a w) : ∀ (l : List Oper), ChOk a (knL s l)
  | [], t, b, h => by cases h
  | o :: r, t, b, h => by
    unfold knL at h
    split at h
    · rename_i d _
      rw [List.mem_append] at h
      rcases h with h | h
      · unfold knG at h
        split at h
        · rename_i b' hk
          obtain ⟨rfl, rfl⟩ : t = d ∧ b = b' := by simpa using h
          exact R.kn t b hk
        · cases h
      · exact knL_ok R r t b h
    · exact knL_ok R r t b h

/-- A guarded operation is done: its chain of tests came out so. -/
theorem chain_ok [LaidC P] (R : Rel P nt w0 G s a w) : ∀ (n t : Nat) (b : Bool), a.tmps.getD t undef = .bool b → ChOk a (chain s.ge n t b)
  | 0, t, b, h => by
    intro t' b' hm
    obtain ⟨rfl, rfl⟩ : t' = t ∧ b' = b := by simpa [chain] using hm
    exact h
  | n + 1, t, b, h => by
    intro t' b' hm
    unfold chain at hm
    rcases List.mem_cons.1 hm with hm | hm
    · obtain ⟨rfl, rfl⟩ := Prod.mk.inj hm
      exact h
    · split at hm
      · rename_i j c v hg
        refine chain_ok R n j c ?_ t' b' hm
        by_cases hj : a.tmps.getD j undef = .bool c
        · exact hj
        · have := (R.ge t j c v hg).2 hj
          rw [this] at h; cases h
      · cases hm

/-- When a guarded operation is done. -/
theorem gcond_ok [LaidC P] (R : Rel P nt w0 G s a w) : ∀ (n t : Nat) (b : Bool) (x : Bool), gcond s n t b = some x → (a.tmps.getD t undef = .bool b ↔ x = true)
  | 0, _, _, _, h => by cases h
  | n + 1, t, b, x, h => by
    unfold gcond at h
    have lit_iff : ∀ y : Bool, (Value.bool y = Value.bool b) ↔ lit b y = true := fun y => by cases b <;> cases y <;> simp [lit]
    split at h
    · rename_i hg
      split at h
      · rename_i y hy
        obtain rfl := Option.some.inj h
        have := R.env t hg
        rw [hy] at this
        simp only [RelV] at this
        rw [this]; exact lit_iff y
      · cases h
    · rename_i j c y hg
      split at h
      · rename_i c' hc
        obtain rfl := Option.some.inj h
        have ih := gcond_ok R n j c c' hc
        have hge := R.ge t j c _ hg
        simp only [RelV] at hge
        simp only [Bool.and_eq_true]
        constructor
        · intro ht
          have hj : a.tmps.getD j undef = .bool c := by
            by_cases hj : a.tmps.getD j undef = .bool c
            · exact hj
            · rw [hge.2 hj] at ht; cases ht
          refine ⟨ih.1 hj, ?_⟩
          rw [hge.1 hj] at ht
          exact (lit_iff y).1 ht
        · rintro ⟨h1, h2⟩
          rw [hge.1 (ih.2 h1)]
          exact (lit_iff y).2 h2
      · cases h
    · cases h

theorem pickV_sound [LaidC P] (R : Rel P nt w0 G s a w) {g : List (Nat × Bool)} (hg : ChOk a g) {c x y : Operand} {v : V} (h : pickV s g c x y = some v) {o : Oper} (ho : o.op = .pick c x y) : ∃ u, (execOp a.eval o).run P w = .ok (.value u) w ∧ RelV P G s.ob w v u := by
  obtain ⟨dst, op, type, pos, after, guard⟩ := o
  obtain rfl : op = _ := ho
  have run : ∀ b : Bool, a.eval c = .bool b → (execOp a.eval ⟨dst, .pick c x y, type, pos, after, guard⟩).run P w = .ok (.value (if b then a.eval x else a.eval y)) w := fun b hb => by
    simp [execOp, hb, asBool]
  unfold pickV at h
  split at h
  · rename_i t
    split at h
    · rename_i hk
      obtain rfl := Option.some.inj h
      exact ⟨_, run true (R.kn t true hk), by simpa using val_sound R hg x⟩
    · rename_i hk
      obtain rfl := Option.some.inj h
      exact ⟨_, run false (R.kn t false hk), by simpa using val_sound R hg y⟩
    · have hv := val_sound R hg (.tmp t)
      have cons : ∀ b, a.eval (.tmp t) = .bool b → ChOk a ((t, b) :: g) := fun b hb t' b' hm => by
        rcases List.mem_cons.1 hm with hm | hm
        · obtain ⟨rfl, rfl⟩ := Prod.mk.inj hm; exact hb
        · exact hg t' b' hm
      split at h
      · rename_i b hb
        rw [hb] at hv
        simp only [RelV] at hv
        split at h
        · rename_i hT
          split at h
          · rename_i z hz
            obtain rfl := Option.some.inj h
            refine ⟨_, run b hv, ?_⟩
            cases b with
            | true =>
              have : x = .const (.bool true) := by
                unfold isTrueC at hT
                split at hT
                · rw [hT]
                · cases hT
              rw [this]
              simp only [if_true, RelV]; rfl
            | false =>
              have := val_sound R (cons false hv) y
              rw [hz] at this
              simpa only [RelV, Bool.false_eq_true, if_false, Bool.false_or] using this
          · cases h
        · rename_i hT
          split at h
          · rename_i z hz
            obtain rfl := Option.some.inj h
            refine ⟨_, run b hv, ?_⟩
            cases b with
            | false =>
              have : y = .const (.bool false) := by
                unfold isFalseC at hT
                split at hT
                · rename_i q; cases q <;> first | rfl | cases hT
                · cases hT
              rw [this]
              simp only [Bool.false_eq_true, if_false, RelV]; rfl
            | true =>
              have := val_sound R (cons true hv) x
              rw [hz] at this
              simpa only [RelV, if_true, Bool.true_and] using this
          · cases h
        · cases h
      · cases h
  · cases h

/-- More objects. -/
def Le (ob ob' : Nat → O) : Prop := ∀ n, ob n = .none ∨ ob' n = ob n
theorem Le.eq {ob ob' : Nat → O} (h : Le ob ob') {n : Nat} (hn : ob n ≠ .none) : ob' n = ob n := (h n).resolve_left hn

/-- A function that is called does what its entry tells. -/
structure EntryOk (P : Program) [LaidC P] {R : Type} (e : Entry R) : Prop where
  enter : ∀ args w, (callFunc e.f args).run P w = .ok (.enter e.f args) w
  run : ∀ {nt w0 G s a w}, Rel P nt w0 G s a w → ∀ {vs : List V} {vals : List Value} {d : Nat} {kk : Eff → Option R} {r : R}, RelVs P G s.ob w vs vals → e.run s.ob d vs kk = some r →
    ∃ ef, kk ef = some r ∧ Calls P e.f vals.toArray w fun en w' => ∃ u G', en = .returned u ∧ Rel P nt w0 G' { s with ob := upO (frO s.ob ef.fr) ef.up } a w' ∧ RelV P G' (upO (frO s.ob ef.fr) ef.up) w' ef.v u
  runG : ∀ {nt w0 G s a w}, Rel P nt w0 G s a w → ∀ {x : Bool} {vs : List V} {vals : List Value} {d : Nat} {kk : V → Option R} {r : R}, (x = true → RelVs P G s.ob w vs vals) → e.runG x s.ob d vs kk = some r →
    ∃ v, kk v = some r ∧ (x = true → Calls P e.f vals.toArray w fun en w' => ∃ u G', en = .returned u ∧ Rel P nt w0 G' s a w' ∧ RelV P G' s.ob w' v u)
  runE : ∀ ob d vs, ∃ p : Option Eff, ∀ kk, e.run ob d vs kk = p.bind kk
  runGE : ∀ x ob d vs, ∃ p : Option V, ∀ kk, e.runG x ob d vs kk = p.bind kk
  mono : ∀ {ob ob' d vs kk r}, Le ob ob' → (∀ n, n / 1024 = d → ob' n = ob n) → e.run ob d vs kk = some r → e.run ob' d vs kk = some r
  monoG : ∀ {x ob ob' d vs kk r}, Le ob ob' → e.runG x ob d vs kk = some r → e.runG x ob' d vs kk = some r

theorem findE_mem {R : Type} : ∀ {es : List (Entry R)} {f : FuncId} {e : Entry R}, findE es f = some e → e ∈ es ∧ e.f = f
  | [], _, _, h => by cases h
  | e' :: es, f, e, h => by
    unfold findE at h
    split at h
    · rename_i hb
      obtain rfl := Option.some.inj h
      exact ⟨List.mem_cons_self .., beq_eq hb⟩
    · obtain ⟨h1, h2⟩ := findE_mem h
      exact ⟨List.mem_cons_of_mem _ h1, h2⟩

theorem gd_some {R : Type} {c : Bool} {x : Option R} {r : R} (h : gd c x = some r) : c = true ∧ x = some r := by
  unfold gd at h; cases c <;> simp at h; exact ⟨rfl, h⟩
theorem gdo_some {R : Type} {c : Option Bool} {x : Option R} {r : R} (h : gdo c x = some r) : (∀ b, c = some b → b = true) ∧ x = some r := by
  cases c with
  | none => exact ⟨(fun _ h => by cases h), h⟩
  | some c => obtain ⟨h1, h2⟩ := gd_some h; exact ⟨fun b hb => by rw [← Option.some.inj hb]; exact h1, h2⟩

theorem findV_mem {R : Type} {es : List (Entry R)} {v : V} {e : Entry R} {fs cs : List V} (h : findV es v = some (e, fs, cs)) : e ∈ es ∧ ((v = .fn e.f cs ∧ fs = []) ∨ (v = .bm e.f fs ∧ cs = [])) := by
  unfold findV at h
  split at h
  · split at h
    · rename_i e' he
      obtain ⟨h1, rfl⟩ := findE_mem he
      simp only [Option.some.injEq, Prod.mk.injEq] at h
      obtain ⟨rfl, rfl, rfl⟩ := h
      exact ⟨h1, .inl ⟨rfl, rfl⟩⟩
    · cases h
  · split at h
    · rename_i e' he
      obtain ⟨h1, rfl⟩ := findE_mem he
      simp only [Option.some.injEq, Prod.mk.injEq] at h
      obtain ⟨rfl, rfl, rfl⟩ := h
      exact ⟨h1, .inr ⟨rfl, rfl⟩⟩
    · cases h
  · cases h
/-- What a function value is, with what it takes ahead of the arguments and behind them. -/
theorem fn_val {f : FuncId} {ob : Nat → O} {x : V} {fs cs : List V} {v : Value} (hx : (x = .fn f cs ∧ fs = []) ∨ (x = .bm f fs ∧ cs = [])) (h : RelV P G ob w x v) :
    ∃ fv cv : Array Value, v = .func (.func f) fv cv ∧ RelVs P G ob w fs fv.toList ∧ RelVs P G ob w cs cv.toList := by
  rcases hx with ⟨rfl, rfl⟩ | ⟨rfl, rfl⟩
  · simp only [RelV] at h
    obtain ⟨cs', rfl, hcs⟩ := h
    exact ⟨#[], cs', rfl, by simp only [RelVs], hcs⟩
  · simp only [RelV] at h
    obtain ⟨cs', rfl, hcs⟩ := h
    exact ⟨cs', #[], rfl, hcs, by simp only [RelVs]⟩
theorem relVs_append {G1 : Gh} {o1 : Nat → O} {w1 : World} : ∀ {xs ys : List V} {us vs : List Value}, RelVs P G1 o1 w1 xs us → RelVs P G1 o1 w1 ys vs → RelVs P G1 o1 w1 (xs ++ ys) (us ++ vs)
  | [], ys, [], vs, _, h => h
  | [], _, _ :: _, _, h, _ => by simp only [RelVs] at h
  | _ :: _, _, [], _, h, _ => by simp only [RelVs] at h
  | x :: xs, ys, u :: us, vs, h, h' => by
    simp only [List.cons_append, RelVs] at h ⊢
    exact ⟨h.1, relVs_append h.2 h'⟩

theorem run_call {f : FuncId} (enter : ∀ args w, (callFunc f args).run P w = .ok (.enter f args) w) {x : Operand} {args : Array Operand} {argTypes : Array TypeId} {o : Oper} (ho : o.op = .call { callee := .value x, args, argTypes }) (a : Act) {fv cv : Array Value} (hx : a.eval x = .func (.func f) fv cv) (w : World) :
    (execOp a.eval o).run P w = .ok (.enter f (fv.toList ++ (args.toList.map a.eval ++ cv.toList)).toArray) w := by
  obtain ⟨dst, op, type, pos, after, guard⟩ := o
  obtain rfl : op = _ := ho
  have e1 : (fv.toList ++ (args.toList.map a.eval ++ cv.toList)).toArray = fv ++ args.map a.eval ++ cv := Array.toList_inj.1 (by simp)
  rw [e1]
  simp [execOp, resolve, hx, Deferred.ofValue, invoke, enter]

/-- An operation that is done. -/
theorem eff_eq (s : St) (dst : Option Nat) (e : Eff) : s.eff dst e = ({ s with ob := upO (frO s.ob e.fr) e.up } : St).put dst e.v := by cases dst <;> rfl

theorem opC_sound [LaidC P] {R : Type} {ρ : List (Entry R)} (hρ : ∀ e ∈ ρ, EntryOk P e) (Rl : Rel P nt w0 G s a w) {o : Oper} (hd : ∀ d, o.dst = some d → nt.dn d) {ops : List Oper} {kk : St → Option R} {r : R} (h : opC P ρ ops s o kk = some r)
    {next : Act → World → Prop} {Q : Exit → Act → World → Prop} (hn : ∀ s' a' w', Good P nt w0 s' a' w' → kk s' = some r → next a' w') : o.wp P a w next Q := by
  have hg := knL_ok Rl ops
  unfold opC at h
  simp only at h
  split at h
  · rename_i c x y ho
    split at h
    · rename_i v hv
      obtain ⟨u, hr, ru⟩ := pickV_sound Rl hg hv ho
      unfold Oper.wp
      rw [hr]
      exact hn _ _ _ ⟨G, Rl.put ru o.dst hd⟩ h
    · cases h
  · rename_i xf args argTypes ho
    split at h
    · rename_i e fs cs he
      obtain ⟨hm, hfv⟩ := findV_mem he
      obtain ⟨fv, cv, hxf, hrf, hrc⟩ := fn_val hfv (val_sound Rl hg xf)
      have ok := hρ e hm
      have hvs : RelVs P G s.ob w (fs ++ (args.toList.map (s.val (knL s ops)) ++ cs)) (fv.toList ++ (args.toList.map a.eval ++ cv.toList)) := relVs_append hrf (relVs_append (relVs_map (fun x => val_sound Rl hg x) _) hrc)
      obtain ⟨ef, hk, hcall⟩ := ok.run Rl hvs h
      rw [eff_eq] at hk
      unfold Oper.wp
      rw [run_call ok.enter ho a hxf]
      refine hcall.mono fun en w' hen => ?_
      obtain ⟨u, G', rfl, R', ru⟩ := hen
      refine hn _ _ _ ⟨G', ?_⟩ hk
      exact R'.put ru o.dst hd
    · cases h
  · split at h
    · rename_i c v hp
      obtain ⟨hc, hk⟩ := gdo_some h
      obtain ⟨u, hr, ru⟩ := pureOp_sound Rl.ob (fun x => val_sound Rl hg x) (fun _ => rfl) hp hc
      unfold Oper.wp
      rw [hr]
      exact hn _ _ _ ⟨G, Rl.put ru o.dst hd⟩ hk
    · split at h
      · rename_i c ef he
        obtain ⟨hc, hk⟩ := gdo_some h
        rw [eff_eq] at hk
        obtain ⟨G', u, w', hr, R', ru⟩ := effOp_sound o.op Rl (fun x => val_sound Rl hg x) (fun _ => rfl) rfl he hc
        unfold Oper.wp
        rcases hr with hr | ⟨hr, rfl⟩
        · rw [hr]
          exact hn _ _ _ ⟨G', R'.put ru o.dst hd⟩ hk
        · rw [hr]
          exact hn _ _ _ ⟨G', R'.put ru o.dst hd⟩ hk
      · cases h


theorem chOk_append {g h : List (Nat × Bool)} (h1 : ChOk a g) (h2 : ChOk a h) : ChOk a (g ++ h) := fun t b hm => by
  rcases List.mem_append.1 hm with hm | hm
  · exact h1 t b hm
  · exact h2 t b hm

theorem yielded_iff {ops : Array Oper} {j tj : Nat} (hj : (ops[j]?).bind (·.dst) = some tj) (hs : tj < a.tmps.size) (b : Bool) : (yielded ops a.tmps j == some b) = true ↔ a.tmps.getD tj undef = .bool b := by
  have hget : a.tmps[tj]? = some (a.tmps.getD tj undef) := by simp [Array.getElem?_eq_getElem hs]
  simp only [yielded, hj, Option.bind_some, hget]
  cases h : a.tmps.getD tj undef <;> simp [h]

/-- What hangs on tests is forgotten at a region's end. -/
theorem Rel.clear [LaidC P] (R : Rel P nt w0 G s a w) : Rel P nt w0 G { s with env := fun j => (match s.ge j with | none => s.env j | some _ => .z), ge := fun _ => none, kn := fun _ => none } a w :=
  { R with
    env := fun t _ => by
      show RelV P G s.ob w (match s.ge t with | none => s.env t | some _ => .z) _
      cases h : s.ge t with
      | none => exact R.env t h
      | some q => simp only [RelV]
    ge := fun _ _ _ _ h => by cases h
    kn := fun _ _ h => by cases h }

theorem litV_op [LaidC P] (Rl : Rel P nt w0 G s a w) {val : Operand → V} {ρ : Operand → Value} (hv : ∀ x, RelV P G s.ob w (val x) (ρ x)) {o : Oper} {v : V} (h : litV P s.ob val o.op = some v) :
    ∃ G' u w', (execOp ρ o).run P w = .ok (.value u) w' ∧ Rel P nt w0 G' s a w' ∧ RelV P G' s.ob w' v u := by
  obtain ⟨dst, op, type, pos, after, guard⟩ := o
  unfold litV at h
  simp only at h
  split at h
  · rename_i t len parts
    split at h
    · rename_i e hu
      split at h
      · rename_i z hz hlen
        split at h
        · rename_i ds hf
          obtain rfl := Option.some.inj h
          obtain ⟨G', u, w', hr, R', ru⟩ := litV_sound Rl hu hz (Nat.le_of_ble_eq_true hlen) (parts := parts.map fun (i, x) => (i, ρ x)) (qs := parts.toList.map fun p => (p.1, ρ p.2)) (by simp) (by simp) (fun j y hy => by
            rw [List.getElem?_map] at hy
            cases hp : parts.toList[j]? with
            | none => rw [hp] at hy; cases hy
            | some p =>
              rw [hp] at hy
              obtain rfl := Option.some.inj hy
              exact ⟨ρ p.2, by simp [List.getElem?_map, hp], hv p.2⟩) hf
          exact ⟨G', u, w', run_v hr, R', ru⟩
        · cases h
      · cases h
    · cases h
  · cases h

theorem regC_sound [LaidC P] {R : Type} {ρ : List (Entry R)} (hρ : ∀ e ∈ ρ, EntryOk P e) {ops : Array Oper} (hd : ∀ o ∈ ops.toList, ∀ d, o.dst = some d → nt.dn d) {kk : St → Option R} {r : R} {Q : Exit → Act → World → Prop}
    (hn : ∀ s' a' w', Good P nt w0 s' a' w' → kk s' = some r → Q .normal a' w') :
    ∀ (l pre : List Oper), ops.toList = pre ++ l → ∀ {s a w}, Good P nt w0 s a w → regC P ρ ops.toList l s kk = some r → wpOps P ops Q (List.range' pre.length l.length) a w
  | [], pre, _, s, a, w, ⟨G, Rl⟩, h => by
    simp only [List.length_nil, List.range'_zero, wpOps]
    exact hn _ _ _ ⟨G, Rl.clear⟩ h
  | o :: l, pre, hpre, s, a, w, ⟨G, Rl⟩, h => by
    have hget : ops[pre.length]? = some o := by
      rw [← Array.getElem?_toList, hpre, List.getElem?_append_right (Nat.le_refl _), Nat.sub_self]; rfl
    have hmem : o ∈ ops.toList := by rw [hpre]; simp
    have hdo := hd o hmem
    have ih : ∀ {s' a' w'}, Good P nt w0 s' a' w' → regC P ρ ops.toList l s' kk = some r → wpOps P ops Q (List.range' (pre.length + 1) l.length) a' w' := fun hg h' => by
      have := regC_sound hρ hd hn l (pre ++ [o]) (by rw [hpre]; simp) hg h'
      simpa using this
    rw [List.length_cons, List.range'_succ, wpOps, hget]
    simp only
    unfold regC at h
    split at h
    · rename_i hgd
      rw [if_pos (by simp [Region.wanted, hgd])]
      exact .inl (opC_sound hρ Rl hdo h fun s' a' w' hg hk => ih hg hk)
    · rename_i j want hgd
      split at h
      · cases h
      · rename_i tj htj
        have htj' : (ops[j]?).bind (·.dst) = some tj := by rw [← Array.getElem?_toList]; exact htj
        have htjlt : tj < a.tmps.size := by
          rw [Rl.size]
          cases hoj : ops[j]? with
          | none => rw [hoj] at htj'; cases htj'
          | some oj => rw [hoj] at htj'; exact (hd oj (by simpa using Array.mem_of_getElem? hoj) tj (by simpa using htj')).1
        have hwant : Region.wanted o (yielded ops a.tmps) = true ↔ a.tmps.getD tj undef = .bool want := by
          simp only [Region.wanted, hgd]
          exact yielded_iff htj' htjlt want
        split at h
        · cases h
        · rename_i hne
          have hne' : ∀ d, o.dst = some d → nt.dn d ∧ tj ≠ d := fun d hdd => ⟨hdo d hdd, fun e => by rw [hdd] at hne; simp [e] at hne⟩
          have done : s.kn tj = some want → opC P ρ ops.toList s o (fun s => regC P ρ ops.toList l s kk) = some r → (if Region.wanted o (yielded ops a.tmps) = true then o.wp P a w (wpOps P ops Q (List.range' (pre.length + 1) l.length)) Q ∨ (o.asks P a w ∧ LetsOut Q) else wpOps P ops Q (List.range' (pre.length + 1) l.length) (a.put o.dst undef) w) := fun hk h => by
            rw [if_pos (hwant.2 (Rl.kn tj want hk))]
            exact .inl (opC_sound hρ Rl hdo h fun s' a' w' hg hk => ih hg hk)
          have skip : s.kn tj = some (!want) → regC P ρ ops.toList l (s.put o.dst .z) kk = some r → (if Region.wanted o (yielded ops a.tmps) = true then o.wp P a w (wpOps P ops Q (List.range' (pre.length + 1) l.length)) Q ∨ (o.asks P a w ∧ LetsOut Q) else wpOps P ops Q (List.range' (pre.length + 1) l.length) (a.put o.dst undef) w) := fun hk h => by
            have : ¬ Region.wanted o (yielded ops a.tmps) = true := fun hw => by
              have h1 := hwant.1 hw
              rw [Rl.kn tj _ hk] at h1
              cases want <;> cases h1
            rw [if_neg this]
            exact ih ⟨G, Rl.put (by simp only [RelV]) o.dst hdo⟩ h
          -- a test whose outcome is not known yet: both arms
          have arms : ∀ y, s.ge tj = none → s.env tj = .b y → ((bif y then (match (generalizing := false) want with
                      | true => opC P ρ ops.toList { s with kn := setF s.kn tj (some true) } o fun s => regC P ρ ops.toList l s kk
                      | false => regC P ρ ops.toList l ({ s with kn := setF s.kn tj (some true) }.put o.dst .z) kk)
                    else (match (generalizing := false) want with
                      | true => regC P ρ ops.toList l ({ s with kn := setF s.kn tj (some false) }.put o.dst .z) kk
                      | false => opC P ρ ops.toList { s with kn := setF s.kn tj (some false) } o fun s => regC P ρ ops.toList l s kk)) = some r) →
              (Region.wanted o (yielded ops a.tmps) = true → o.wp P a w (wpOps P ops Q (List.range' (pre.length + 1) l.length)) Q) ∧ (¬ Region.wanted o (yielded ops a.tmps) = true → wpOps P ops Q (List.range' (pre.length + 1) l.length) (a.put o.dst undef) w) := fun y hge hev h => by
            have hy : a.tmps.getD tj undef = .bool y := by
              have := Rl.env tj hge
              rw [hev] at this
              simpa only [RelV] using this
            have Rl' : Rel P nt w0 G { s with kn := setF s.kn tj (some y) } a w := { Rl with
              kn := fun t b hk => by
                simp only at hk
                rw [setF_get] at hk
                by_cases htd : t = tj
                · rw [if_pos htd] at hk
                  rw [htd, hy, Option.some.inj hk]
                · rw [if_neg htd] at hk
                  exact Rl.kn t b hk }
            cases y <;> cases want
            · have h' : opC P ρ ops.toList { s with kn := setF s.kn tj (some false) } o (fun s => regC P ρ ops.toList l s kk) = some r := h
              exact ⟨fun _ => opC_sound hρ Rl' hdo h' fun s' a' w' hg hk => ih hg hk, fun hw => absurd (hwant.2 hy) hw⟩
            · have h' : regC P ρ ops.toList l ({ s with kn := setF s.kn tj (some false) }.put o.dst .z) kk = some r := h
              exact ⟨fun hw => (by have := hwant.1 hw; rw [hy] at this; cases this), fun _ => ih ⟨G, Rl'.put (by simp only [RelV]) o.dst hdo⟩ h'⟩
            · have h' : regC P ρ ops.toList l ({ s with kn := setF s.kn tj (some true) }.put o.dst .z) kk = some r := h
              exact ⟨fun hw => (by have := hwant.1 hw; rw [hy] at this; cases this), fun _ => ih ⟨G, Rl'.put (by simp only [RelV]) o.dst hdo⟩ h'⟩
            · have h' : opC P ρ ops.toList { s with kn := setF s.kn tj (some true) } o (fun s => regC P ρ ops.toList l s kk) = some r := h
              exact ⟨fun _ => opC_sound hρ Rl' hdo h' fun s' a' w' hg hk => ih hg hk, fun hw => absurd (hwant.2 hy) hw⟩
          split at h
          · rename_i b hb
            split at h
            · rename_i hbw
              have : b = want := by cases b <;> cases want <;> first | rfl | cases hbw
              rw [this] at hb
              exact done hb h
            · rename_i hbw
              have : b = !want := by cases b <;> cases want <;> first | rfl | cases hbw
              rw [this] at hb
              exact skip hb h
          · split at h
            · cases h
            · rename_i x hx
              have hgc := gcond_ok Rl 3 tj want x hx
              have hchain : x = true → ChOk a (chain s.ge 3 tj want ++ knL s ops.toList) := fun h => chOk_append (chain_ok Rl 3 tj want (hgc.2 h)) (knL_ok Rl _)
              -- not done: the temporary is undefined, and what hangs on it is forgotten
              have off : ¬ (x = true) → ∀ v, Good P nt w0 (s.putG o.dst tj want v) (a.put o.dst undef) w := fun hxf v =>
                ⟨G, Rl.putG (fun h => absurd (hgc.1 h) hxf) (fun _ => rfl) o.dst hne'⟩
              have on : x = true → ∀ {G' v u w'}, Rel P nt w0 G' s a w' → RelV P G' s.ob w' v u → Good P nt w0 (s.putG o.dst tj want v) (a.put o.dst u) w' := fun hxt G' v u w' R' ru =>
                ⟨G', R'.putG (fun _ => ru) (fun h => absurd (hgc.2 hxt) h) o.dst hne'⟩
              by_cases hxt : x = true
              · rw [if_pos (hwant.2 (hgc.2 hxt))]
                refine .inl ?_
                simp only at h
                split at h
                · rename_i c x' y' ho
                  split at h
                  · rename_i v hv
                    obtain ⟨u, hr, ru⟩ := pickV_sound Rl (hchain hxt) hv ho
                    unfold Oper.wp
                    rw [hr]
                    exact ih (on hxt Rl ru) h
                  · cases h
                · rename_i f args argTypes ho
                  split at h
                  · rename_i e fs cs he
                    obtain ⟨hm, hfv⟩ := findV_mem he
                    obtain ⟨fv, cv, hxf, hrf, hrc⟩ := fn_val hfv (val_sound Rl (hchain hxt) f)
                    split at h
                    · have ok := hρ e hm
                      obtain ⟨v, hk, hcall⟩ := ok.runG Rl (vals := fv.toList ++ (args.toList.map a.eval ++ cv.toList)) (fun hx => relVs_append hrf (relVs_append (relVs_map (fun y => val_sound Rl (hchain hx) y) args.toList) hrc)) h
                      unfold Oper.wp
                      rw [run_call ok.enter ho a hxf]
                      refine (hcall hxt).mono fun en w' hen => ?_
                      obtain ⟨u, G', rfl, R', ru⟩ := hen
                      exact ih (on hxt R' ru) hk
                    · split at h
                      · rename_i y hge hev
                        exact (arms y hge hev h).1 (hwant.2 (hgc.2 hxt))
                      · cases h
                  · cases h
                · split at h
                  · rename_i c v hp
                    obtain ⟨hc, hk⟩ := gdo_some h
                    have hc' : ∀ b, c = some b → b = true := fun b hb => by
                      have := hc (!x || b) (by rw [hb]; rfl)
                      rw [hxt] at this; simpa using this
                    obtain ⟨u, hr, ru⟩ := pureOp_sound Rl.ob (fun y => val_sound Rl (hchain hxt) y) (fun _ => rfl) hp hc'
                    unfold Oper.wp
                    rw [hr]
                    exact ih (on hxt Rl ru) hk
                  · split at h
                    · rename_i v hlv
                      obtain ⟨G', u, w', hr, R', ru⟩ := litV_op Rl (fun y => val_sound Rl (hchain hxt) y) hlv
                      unfold Oper.wp
                      rw [hr]
                      exact ih (on hxt R' ru) h
                    · split at h
                      · rename_i y hge hev
                        exact (arms y hge hev h).1 (hwant.2 (hgc.2 hxt))
                      · cases h
              · rw [if_neg (fun hw => hxt (hgc.1 (hwant.1 hw)))]
                simp only at h
                split at h
                · split at h
                  · exact ih (off hxt _) h
                  · cases h
                · rename_i f args argTypes ho
                  split at h
                  · rename_i e fs cs he
                    obtain ⟨hm, -⟩ := findV_mem he
                    split at h
                    · obtain ⟨v, hk, -⟩ := (hρ e hm).runG Rl (vals := args.toList.map a.eval) (fun hx => absurd hx hxt) h
                      exact ih (off hxt _) hk
                    · split at h
                      · rename_i y hge hev
                        exact (arms y hge hev h).2 (fun hw => hxt (hgc.1 (hwant.1 hw)))
                      · cases h
                  · cases h
                · split at h
                  · obtain ⟨-, hk⟩ := gdo_some h
                    exact ih (off hxt _) hk
                  · split at h
                    · exact ih (off hxt _) h
                    · split at h
                      · rename_i y hge hev
                        exact (arms y hge hev h).2 (fun hw => hxt (hgc.1 (hwant.1 hw)))
                      · cases h

end Go.Pv

namespace Go.Pv
open RowKit
variable {P : Program} {R : Type}

theorem pairs_congr {val val' : Operand → V} (ps : Array (Nat × Operand)) (h : ∀ x ∈ (ps.toList.map (·.2)).toArray, val x = val' x) :
    (ps.toList.map fun p => (p.1, val p.2)) = (ps.toList.map fun p => (p.1, val' p.2)) :=
  List.map_congr_left fun p hm => by
    obtain ⟨i, x⟩ := p
    simp only [h x (by simpa using ⟨i, by simpa using hm⟩)]

theorem mem_args {callee : Callee} {args : Array Operand} {argTypes : Array TypeId} {x : Operand} (h : x ∈ args) : x ∈ (Op.call { callee, args, argTypes }).operands := by
  simp only [Op.operands, Call.operands]
  cases callee <;> simp [h]

theorem mem_callee (x : Operand) (args : Array Operand) (argTypes : Array TypeId) : x ∈ (Op.call { callee := .value x, args, argTypes }).operands := by
  simp [Op.operands, Call.operands]

theorem pureOp_congr {ob : Nat → O} {val val' : Operand → V} (op : Op) (h : ∀ x ∈ op.operands, val x = val' x) : pureOp P ob val op = pureOp P ob val' op := by
  cases op with
  | call c =>
    obtain ⟨callee, args, argTypes⟩ := c
    have ha : ∀ x ∈ args.toList, val x = val' x := fun x hx => h x (mem_args (by simpa using hx))
    have hm : args.toList.map val = args.toList.map val' := List.map_congr_left ha
    cases callee with
    | builtin b =>
      cases b <;> first | rfl | (simp only [pureOp, hm]; done) | skip
      simp only [pureOp]
      cases hl : args.toList with
      | nil => rfl
      | cons x r =>
        cases r with
        | nil =>
            have hx := ha x (by rw [hl]; simp)
            cases argTypes[0]? with
            | none => rfl
            | some t => simp only [hx]
        | cons => rfl
    | _ => rfl
  | build t ps =>
    have := pairs_congr ps (by simpa [Op.operands] using h)
    simp only [pureOp, this]
  | slice t x lo hi mx =>
    have h0 : val x = val' x := h x (by simp [Op.operands])
    have h1 : lo.map val = lo.map val' := by cases lo with | none => rfl | some q => simp [h q (by simp [Op.operands])]
    have h2 : hi.map val = hi.map val' := by cases hi with | none => rfl | some q => simp [h q (by simp [Op.operands])]
    cases mx with
    | none => simp only [pureOp, h0, h1, h2]
    | some _ => rfl
  | makeFunc fn first captured =>
    have h1 : first.toList.map val = first.toList.map val' := List.map_congr_left fun x hx => h x (by simp only [Op.operands, Array.mem_append]; exact .inl (by simpa using hx))
    have h2 : captured.toList.map val = captured.toList.map val' := List.map_congr_left fun x hx => h x (by simp only [Op.operands, Array.mem_append]; exact .inr (by simpa using hx))
    cases fn <;> first | rfl | simp only [pureOp, h1, h2]
  | unOp u t x =>
    have h0 : val x = val' x := h x (by simp [Op.operands])
    cases u <;> first | rfl | simp only [pureOp, h0]
  | lookup t m x ok =>
    have h0 : val m = val' m := h m (by simp [Op.operands])
    have h1 : val x = val' x := h x (by simp [Op.operands])
    cases ok <;> first | rfl | simp only [pureOp, h0, h1]
  | _ =>
    simp only [Op.operands] at h
    first
      | rfl
      | (simp only [pureOp]; simp_all; done)

theorem effOp_congr {ob : Nat → O} {val val' : Operand → V} {d : Nat} (op : Op) (h : ∀ x ∈ op.operands, val x = val' x) : effOp P ob d val op = effOp P ob d val' op := by
  cases op with
  | call c =>
    obtain ⟨callee, args, argTypes⟩ := c
    have ha : ∀ x ∈ args.toList, val x = val' x := fun x hx => h x (mem_args (by simpa using hx))
    cases callee with
    | builtin b =>
      cases b <;> first | rfl | skip
      all_goals
        simp only [effOp]
        cases hl : args.toList with
        | nil => rfl
        | cons x r =>
          cases r with
          | nil => rfl
          | cons y r => 
            cases r with
            | nil => 
              have hx := ha x (by rw [hl]; simp)
              have hy := ha y (by rw [hl]; simp)
              rcases argTypes.toList with _ | ⟨t, _ | ⟨u, _ | ⟨_, _⟩⟩⟩ <;> first | rfl | simp only [hx, hy]
            | cons => rfl
    | _ => rfl
  | buildSlice t n ps =>
    have := pairs_congr ps (by simpa [Op.operands] using h)
    simp only [effOp, this]
  | makeMap t r => cases r <;> rfl
  | _ =>
    simp only [Op.operands] at h
    first
      | rfl
      | (simp only [effOp]; simp_all; done)

/-- No object is looked at. -/
theorem pureOp_ob0 {ob ob' : Nat → O} {val : Operand → V} (op : Op) (h : cls op = 0) : pureOp P ob val op = pureOp P ob' val op := by
  cases op with
  | unOp u t x => cases u <;> rfl
  | call c =>
    obtain ⟨callee, args, argTypes⟩ := c
    cases callee with
    | builtin b => cases b <;> first | rfl | cases h
    | _ => rfl
  | convert s t x => simp only [cls] at h; split at h <;> cases h
  | _ => first | rfl | cases h

theorem hide_le (hid : Hd) (ob : Nat → O) : Le (hide hid ob) ob := fun n => by
  unfold hide
  cases mem (n / 1024) hid.l with
  | true => simp
  | false =>
    cases hid.fl with
    | false => simp
    | true => cases ob n <;> simp [noRow]

section
variable {ob ob' : Nat → O} (hle : Le ob ob')
include hle

theorem listV_mono {v : V} {q} (h : listV ob v = some q) : listV ob' v = some q := by
  cases v with
  | own n g =>
    simp only [listV] at h ⊢
    have : ob n ≠ .none := fun hn => by rw [hn] at h; cases h
    rw [hle.eq this]; exact h
  | vw n g lo hi =>
    simp only [listV] at h ⊢
    have : ob n ≠ .none := fun hn => by rw [hn] at h; cases h
    rw [hle.eq this]; exact h
  | _ => exact h

theorem lenV_mono {v : V} {q} (h : lenV ob v = some q) : lenV ob' v = some q := by
  unfold lenV at h ⊢
  split at h
  · exact h
  · split at h
    · rename_i hl
      rw [listV_mono hle hl]; exact h
    · cases h

theorem loadV_mono {t : TypeId} {ag : Bool} {v : V} {q} (h : loadV P ob t ag v = some q) : loadV P ob' t ag v = some q := by
  cases v with
  | ref n o =>
    simp only [loadV] at h ⊢
    have : ob n ≠ .none := fun hn => by rw [hn] at h; cases h
    rw [hle.eq this]; exact h
  | ev n g i j =>
    simp only [loadV] at h ⊢
    have : ob n ≠ .none := fun hn => by rw [hn] at h; cases h
    rw [hle.eq this]; exact h
  | _ => exact h

theorem indexV_mono {t : TypeId} {x : V} {i : Int} {q} (h : indexV P ob t x i = some q) : indexV P ob' t x i = some q := by
  unfold indexV at h ⊢
  split at h
  · exact h
  · rename_i n g hu
    have : ob n ≠ .none := fun hn => by rw [hn] at h; cases h
    simp only [hle.eq this]; exact h
  · rename_i n hu
    have : ob n ≠ .none := fun hn => by rw [hn] at h; cases h
    simp only [hle.eq this]; exact h
  · cases h

theorem sliceV_mono {t : TypeId} {x : V} {lo hi : Option V} {q} (h : sliceV P ob t x lo hi = some q) : sliceV P ob' t x lo hi = some q := by
  unfold sliceV at h ⊢
  split at h
  · exact h
  · exact h
  · rename_i n g hu
    have : ob n ≠ .none := fun hn => by rw [hn] at h; cases h
    simp only [hle.eq this]; exact h
  · cases h

theorem convV_mono {s t : TypeId} {x : V} {q} (h : convV P ob s t x = some q) : convV P ob' s t x = some q := by
  unfold convV at h ⊢
  split at h
  · exact h
  · exact h
  · split at h
    · exact h
    · split at h
      · rename_i hl
        rw [listV_mono hle hl]; exact h
      · cases h
    · cases h
  · cases h

theorem toC_mono {k : K} {v : V} {q} (h : toC ob k v = some q) : toC ob' k v = some q := by
  unfold toC at h ⊢
  split at h
  all_goals first | exact h | skip
  rename_i n g
  have : ob n ≠ .none := fun hn => by rw [hn] at h; cases h
  simp only [hle.eq this]; exact h

theorem toCs_mono : ∀ {ks : List K} {vs : List V} {q}, toCs ob ks vs = some q → toCs ob' ks vs = some q
  | [], [], q, h => h
  | [], _ :: _, q, h => by cases h
  | _ :: _, [], q, h => by cases h
  | k :: ks, v :: vs, q, h => by
    unfold toCs at h ⊢
    split at h
    · rename_i h1 h2
      rw [toC_mono hle h1, toCs_mono h2]; exact h
    · cases h

theorem toT_mono {t : TypeId} {v : V} {q} (h : toT P ob t v = some q) : toT P ob' t v = some q := by
  unfold toT at h ⊢
  split at h
  · split at h
    · exact h
    · split at h
      · rename_i hc
        rw [toCs_mono hle hc]; exact h
      · cases h
    · cases h
  · exact toC_mono hle h
  · cases h

theorem fillE_mono [LaidC P] {e : TypeId} : ∀ {l : List (Nat × V)} {ds : List D} {q}, fillE P ob e l ds = some q → fillE P ob' e l ds = some q
  | [], ds, q, h => h
  | (i, x) :: r, ds, q, h => by
    unfold fillE at h ⊢
    split at h
    · rename_i h1 h2
      split at h
      · rename_i h3
        simp only [toT_mono hle h1, h2, fillE_mono h3]; exact h
      · cases h
    · cases h

theorem lookV_mono {t : TypeId} {m x : V} {q} (h : lookV P ob t m x = some q) : lookV P ob' t m x = some q := by
  unfold lookV at h ⊢
  split at h
  · rename_i k e n _
    have : ob n ≠ .none := fun hn => by rw [hn] at h; cases h
    rw [hle.eq this]; exact h
  · cases h

theorem lenM_mono {v : V} {q} (h : lenM P ob v = some q) : lenM P ob' v = some q := by
  unfold lenM at h ⊢
  split at h
  · rename_i n
    have : ob n ≠ .none := fun hn => by rw [hn] at h; cases h
    rw [hle.eq this]; exact h
  · cases h

theorem pureOp_mono [LaidC P] {val : Operand → V} {op : Op} {q} (h : pureOp P ob val op = some q) : pureOp P ob' val op = some q := by
  unfold pureOp at h ⊢
  split at h
  all_goals first | exact h | skip
  · -- fieldAddr
    split at h
    · rename_i n o q' _ _
      have : ob n ≠ .none := fun hn => by rw [hn] at h; cases h
      simp only [hle.eq this]; exact h
    · rename_i n g i j q' _ _
      have : ob n ≠ .none := fun hn => by rw [hn] at h; cases h
      simp only [hle.eq this]; exact h
    · exact h
    · cases h
  · -- load
    split at h
    · exact loadV_mono hle h
    · cases h
  · split at h
    · exact indexV_mono hle h
    · cases h
  · -- nilCheck
    split at h
    · rename_i n o _
      have : ob n ≠ .none := fun hn => by rw [hn] at h; cases h
      simp only [hle.eq this]; exact h
    · rename_i n g i j _
      have : ob n ≠ .none := fun hn => by rw [hn] at h; cases h
      simp only [hle.eq this]; exact h
    · exact h
    · cases h
  · exact lookV_mono hle h
  · exact sliceV_mono hle h
  · exact convV_mono hle h
  · -- build
    split at h
    · exact h
    · split at h
      · split at h
        · rename_i h1 h2
          simp only [h1, fillE_mono hle h2]; exact h
        · cases h
      · cases h
    · cases h
  · -- len
    split at h
    · split at h
      · exact h
      · split at h
        · rename_i hl
          simp only [lenV_mono hle hl]; exact h
        · cases h
      · split at h
        · rename_i hl
          simp only [lenM_mono hle hl]; exact h
        · cases h
      · cases h
    · cases h

theorem elemsV_mono {e : TypeId} {v : V} {q} (h : elemsV P ob e v = some q) : elemsV P ob' e v = some q := by
  unfold elemsV at h ⊢
  split at h
  · exact h
  · exact h
  · rename_i h1 h2
    split at h
    · rename_i hl
      simp only [listV_mono hle hl]; exact h
    · cases h
theorem appendV_mono [LaidC P] {d : Nat} {t : TypeId} {x y : V} {q} (hd : ob' (1024 * d) = ob (1024 * d)) (h : appendV P ob d t x y = some q) : appendV P ob' d t x y = some q := by
  unfold appendV at h ⊢
  split at h
  · rename_i e he
    split at h
    · rename_i ys h1 h2 h3 h4
      simp only [he, h1, h2, h3, elemsV_mono hle h4, hd]
      split at h
      · exact h
      · rename_i n g
        have : ob n ≠ .none := fun hn => by rw [hn] at h; cases h
        simp only [hle.eq this]; exact h
      · cases h
    · cases h
  · cases h

theorem effOp_mono [LaidC P] {val : Operand → V} {d : Nat} {op : Op} {q} (hd : ob' (1024 * d) = ob (1024 * d)) (hc : cls op = 1) (h : effOp P ob d val op = some q) : effOp P ob' d val op = some q := by
  unfold effOp at h ⊢
  split at h
  · simp only [hd]; exact h
  · simp only [hd]; exact h
  · cases hc
  · cases hc
  · simp only [hd]; exact h
  · -- buildSlice
    simp only [hd]
    split at h
    · split at h
      · split at h
        · rename_i h5
          simp only [*, fillE_mono hle h5]
        · cases h
      · cases h
    · cases h
  · simp only [hd]; exact h
  · rename_i src dst x
    have hsd : Nat.beq src dst = false := by
      cases hb : Nat.beq src dst with
      | false => rfl
      | true => simp [cls, hb] at hc
    simp only [hd, hsd] at h ⊢
    exact h
  · split at h
    · split at h
      · exact appendV_mono hle hd h
      · exact appendV_mono hle hd h
      · cases h
    · cases h
  · cases hc
  · cases h
end
end Go.Pv

namespace Go.Pv
open RowKit
variable {P : Program} {G G' : Gh} {w w' w0 : World} {nt : Cx} {s s' : St} {a : Act} {R : Type}

/-- What may come of an operation. -/
def OcOk (ops : Array Oper) (hid : Hd) (s : St) (o : Oper) : Oc → Prop
  | .v _ => True
  | .g t b _ => (∃ j, o.guard = some (j, b) ∧ (ops.toList[j]?).bind (·.dst) = some t) ∧ o.dst ≠ some t
  | .e ef => (cls o.op = 3 ∧ (hid.fl = true → rowsOnly s.ob ef = true)) ∨ (cls o.op = 1 ∧ ∃ d, o.dst = some d ∧ okE d ef = true) ∨ hid.al = true

theorem gdo_bind {α : Type} {C : α → Prop} (c : Option Bool) (x : α) (h : C x) : ∃ p : Option α, (∀ y, p = some y → C y) ∧ ∀ k : α → Option R, gdo c (k x) = p.bind k := by
  have hx : ∀ y, some x = some y → C y := fun y e => by rw [← Option.some.inj e]; exact h
  cases c with
  | none => exact ⟨some x, hx, fun _ => rfl⟩
  | some b => cases b <;> first | exact ⟨none, (fun _ h => by cases h), fun _ => rfl⟩ | exact ⟨some x, hx, fun _ => rfl⟩

/-- What an operation gives does not depend on what comes behind it. -/
theorem outD_bind [LaidC P] {ρ : List (Entry R)} (hρ : ∀ e ∈ ρ, EntryOk P e) {ops : Array Oper} (hid : Hd) (o : Oper) (s : St) :
    ∃ p : Option Oc, (∀ oc, p = some oc → OcOk ops hid s o oc) ∧ ∀ k, outD P ρ ops hid o s k = p.bind k := by
  have none' : ∃ p : Option Oc, (∀ oc, p = some oc → OcOk ops hid s o oc) ∧ ∀ k : Oc → Option R, none = p.bind k := ⟨none, (fun _ h => by cases h), fun _ => rfl⟩
  have some' : ∀ x, OcOk ops hid s o x → ∃ p : Option Oc, (∀ oc, p = some oc → OcOk ops hid s o oc) ∧ ∀ k : Oc → Option R, k x = p.bind k := fun x h => ⟨some x, (fun y e => by rw [← Option.some.inj e]; exact h), fun _ => rfl⟩
  unfold outD
  split
  · split
    · split
      · exact some' _ trivial
      · exact none'
    · rename_i f args argTypes ho
      split
      · rename_i hal
        split
        · rename_i e fs cs he
          obtain ⟨p, hp⟩ := (hρ e (findV_mem he).1).runE s.ob (o.dst.getD 0) (fs ++ (args.toList.map (s.val []) ++ cs))
          refine ⟨p.bind fun ef => some (.e ef), fun oc hoc => ?_, fun k => ?_⟩
          · cases p with
            | none => cases hoc
            | some ef =>
              obtain rfl := Option.some.inj hoc
              exact .inr (.inr hal)
          rw [hp, Option.bind_assoc]; rfl
        · exact none'
      split
      · rename_i e fs cs d he hd
        split
        · obtain ⟨p, hp⟩ := (hρ e (findV_mem he).1).runE (hide hid s.ob) d (fs ++ (args.toList.map (s.val []) ++ cs))
          refine ⟨p.bind fun ef => match okE d ef with | true => some (.e ef) | false => none, fun oc hoc => ?_, fun k => ?_⟩
          · cases p with
            | none => cases hoc
            | some ef =>
              simp only [Option.bind_some] at hoc
              cases hk : okE d ef with
              | false => rw [hk] at hoc; cases hoc
              | true =>
                rw [hk] at hoc
                obtain rfl := Option.some.inj hoc
                exact .inr (.inl ⟨by rw [ho]; rfl, d, hd, hk⟩)
          rw [hp, Option.bind_assoc]
          congr 1; funext ef
          cases okE d ef <;> rfl
        · exact none'
      · exact none'
    · split
      · rename_i h3
        split
        · rename_i c ef _
          split
          · rename_i hfl
            exact gdo_bind c (Oc.e ef) (.inl ⟨Nat.eq_of_beq_eq_true h3, fun h => by rw [h] at hfl; simpa using hfl⟩)
          · exact none'
        · exact none'
      · split
        · rename_i c v _; exact gdo_bind c (Oc.v v) trivial
        · split
          · rename_i d hd
            split
            · rename_i h1
              split
              · rename_i c ef _
                split
                · rename_i hk
                  exact gdo_bind c (Oc.e ef) (.inr (.inl ⟨Nat.eq_of_beq_eq_true ((Bool.and_eq_true _ _).mp h1).1, d, hd, hk⟩))
                · exact none'
              · exact none'
            · exact none'
          · exact none'
  · rename_i j want hg
    split
    · exact none'
    · rename_i tj htj
      split
      · exact none'
      · rename_i hne
        have hok : ∀ v, OcOk ops hid s o (.g tj want v) := fun v => ⟨⟨j, hg, htj⟩, fun h => by rw [h] at hne; simp at hne⟩
        split
        · exact none'
        · rename_i x hx
          split
          · split
            · exact some' _ (hok _)
            · exact none'
          · split
            · rename_i args _ _ _ e fs cs he
              obtain ⟨p, hp⟩ := (hρ e (findV_mem he).1).runGE x (hide hid s.ob) (o.dst.getD 0) (fs ++ (args.toList.map (s.val (chain s.ge 3 tj want)) ++ cs))
              refine ⟨p.bind fun v => some (.g tj want v), fun oc hoc => ?_, fun k => ?_⟩
              · cases p with
                | none => cases hoc
                | some v =>
                  obtain rfl := Option.some.inj hoc
                  exact hok v
              rw [hp, Option.bind_assoc]; rfl
            · exact none'
          · split
            · rename_i c v _; exact gdo_bind _ (Oc.g tj want v) (hok v)
            · have skip' : ∃ p : Option Oc, (∀ oc, p = some oc → OcOk ops hid s o oc) ∧ ∀ k : Oc → Option R, (bif x then none else k (.v .z)) = p.bind k := by
                cases x with
                | true => exact none'
                | false => exact some' (.v .z) trivial
              split
              · rename_i h3
                split
                · rename_i c ef _
                  split
                  · rename_i hfl
                    cases x with
                    | true => exact gdo_bind c (Oc.e ef) (.inl ⟨Nat.eq_of_beq_eq_true h3, fun h => by rw [h] at hfl; simpa using hfl⟩)
                    | false => exact some' (.v .z) trivial
                  · exact none'
                · exact skip'
              · split
                · rename_i d hd
                  split
                  · rename_i h1
                    split
                    · rename_i c ef _
                      split
                      · rename_i hk
                        cases x with
                        | true => exact gdo_bind c (Oc.e ef) (.inr (.inl ⟨Nat.eq_of_beq_eq_true ((Bool.and_eq_true _ _).mp h1).1, d, hd, hk⟩))
                        | false => exact some' (.v .z) trivial
                      · exact skip'
                    · exact skip'
                  · exact skip'
                · exact skip'

/-- What an operation looks at is the same. -/
structure Same (ops : Array Oper) (hid : Hd) (o : Oper) (s s' : St) : Prop where
  kn : s'.kn = s.kn
  val : ∀ g, ∀ x ∈ o.op.operands, s'.val g x = s.val g x
  gc : ∀ j b tj, o.guard = some (j, b) → (ops.toList[j]?).bind (·.dst) = some tj → gcond s' 3 tj b = gcond s 3 tj b ∧ chain s'.ge 3 tj b = chain s.ge 3 tj b
  ob : cls o.op = 0 ∨ (cls o.op ≠ 3 ∧ hide hid s'.ob = hide hid s.ob) ∨ s'.ob = s.ob
  al : hid.al = false

theorem pickV_congr {s s' : St} {g : List (Nat × Bool)} {c x y : Operand} (hk : s'.kn = s.kn) (h : ∀ g, ∀ z ∈ (Op.pick c x y).operands, s'.val g z = s.val g z) : pickV s' g c x y = pickV s g c x y := by
  have h1 : ∀ g, s'.val g c = s.val g c := fun g => h g c (by simp [Op.operands])
  have h2 : ∀ g, s'.val g x = s.val g x := fun g => h g x (by simp [Op.operands])
  have h3 : ∀ g, s'.val g y = s.val g y := fun g => h g y (by simp [Op.operands])
  unfold pickV
  simp only [hk, h1, h2, h3]

theorem outD_same {ρ : List (Entry R)} {ops : Array Oper} {hid : Hd} {o : Oper} (h : Same ops hid o s s') (k : Oc → Option R) : outD P ρ ops hid o s' k = outD P ρ ops hid o s k := by
  obtain ⟨dst, op, type, pos, after, guard⟩ := o
  have hv : ∀ g, ∀ x ∈ op.operands, s'.val g x = s.val g x := h.val
  have hob := h.ob
  have hgc := h.gc
  simp only at hob hgc
  have args : ∀ {f argl argTypes} (g : List (Nat × Bool)), op = .call { callee := .value f, args := argl, argTypes } → argl.toList.map (s'.val g) = argl.toList.map (s.val g) := fun g e => by
    subst e
    exact List.map_congr_left fun x hx => hv g x (mem_args (by simpa using hx))
  have hidO : ∀ {f argl argTypes}, op = .call { callee := .value f, args := argl, argTypes } → hide hid s'.ob = hide hid s.ob := fun e => by
    subst e
    rcases hob with h | ⟨-, h⟩ | h
    · cases h
    · exact h
    · rw [h]
  have pur : ∀ g, cls op ≠ 3 → pureOp P (hide hid s'.ob) (s'.val g) op = pureOp P (hide hid s.ob) (s.val g) op := fun g h3 => by
    rw [pureOp_congr op (hv g)]
    rcases hob with h | ⟨-, h⟩ | h
    · exact pureOp_ob0 op h
    · rw [h]
    · rw [h]
  unfold outD
  simp only [h.al]
  cases guard with
  | none =>
    simp only
    split
    · rw [pickV_congr h.kn hv]
    · rename_i f argl argTypes
      rw [args [] rfl, hidO rfl, hv [] f (mem_callee ..)]
    · split
      · rename_i hc
        have h3 : cls op = 3 := Nat.eq_of_beq_eq_true hc
        have he : s'.ob = s.ob := by
          rcases hob with h | ⟨h, -⟩ | h
          · rw [h3] at h; cases h
          · exact absurd h3 h
          · exact h
        rw [he, effOp_congr op (hv [])]
      · rename_i hc
        rw [pur [] (fun h => by rw [h] at hc; cases hc)]
        split
        · rfl
        · split
          · split
            · rename_i h1
              have h1 : cls op = 1 := Nat.eq_of_beq_eq_true ((Bool.and_eq_true _ _).mp h1).1
              have he : hide hid s'.ob = hide hid s.ob := by
                rcases hob with h | ⟨-, h⟩ | h
                · rw [h1] at h; cases h
                · exact h
                · rw [h]
              rw [he, effOp_congr op (hv [])]
            · rfl
          · rfl
  | some q =>
    obtain ⟨j, want⟩ := q
    simp only
    split
    · rfl
    · rename_i tj htj
      obtain ⟨g1, g2⟩ := hgc j want tj rfl htj
      split
      · rfl
      · rw [g1, g2]
        split
        · rfl
        · split
          · rw [pickV_congr h.kn hv]
          · rename_i f argl argTypes
            rw [args _ rfl, hidO rfl, hv _ f (mem_callee ..)]
          · by_cases h3 : cls op = 3
            · rcases hob with h | ⟨h, -⟩ | h
              · rw [h3] at h; cases h
              · exact absurd h3 h
              · have hb : Nat.beq (cls op) 3 = true := by rw [h3]; rfl
                rw [h, pureOp_congr op (hv _), effOp_congr op (hv _)]
                simp only [hb]
            · have hb : Nat.beq (cls op) 3 = false := by
                cases hq : Nat.beq (cls op) 3 with
                | false => rfl
                | true => exact absurd (Nat.eq_of_beq_eq_true hq) h3
              rw [pur _ h3]
              simp only [hb]
              split
              · rfl
              · split
                · split
                  · rename_i h1
                    have h1 : cls op = 1 := Nat.eq_of_beq_eq_true ((Bool.and_eq_true _ _).mp h1).1
                    have he : hide hid s'.ob = hide hid s.ob := by
                      rcases hob with h | ⟨-, h⟩ | h
                      · rw [h1] at h; cases h
                      · exact h
                      · rw [h]
                    rw [he, effOp_congr op (hv _)]
                  · rfl
                · rfl

/-! ### What is done to the state -/
/-- Nothing hangs on these temporaries. -/
def Off (s : St) (t : Nat) : Prop := ∀ j i b v, s.ge j = some (i, b, v) → j ≠ t ∧ i ≠ t

def envA : Option Nat → Oc → (Nat → V) → Nat → V
  | none, _, e => e
  | some d, .v v, e => setF e d v
  | some d, .g _ _ _, e => setF e d .z
  | some d, .e ef, e => setF e d ef.v
def geA : Option Nat → Oc → (Nat → Option (Nat × Bool × V)) → Nat → Option (Nat × Bool × V)
  | some d, .g t b v, g => setF g d (some (t, b, v))
  | _, _, g => g
def obA : Oc → (Nat → O) → Nat → O
  | .e ef, ob => upO (frO ob ef.fr) ef.up
  | _, ob => ob

theorem envC_off {s : St} {d : Nat} (h : Off s d) : envC s.env s.ge d = s.env := by
  funext j
  unfold envC
  cases hg : s.ge j with
  | none => rfl
  | some q =>
    obtain ⟨t, b, v⟩ := q
    have := (h j t b v hg).2
    cases hb : Nat.beq t d with
    | false => simp only [hb]
    | true => exact absurd (beq_eq hb) this
theorem clr_off {s : St} {d : Nat} (h : Off s d) : clr s.ge d = s.ge := by
  funext j
  unfold clr
  cases hg : s.ge j with
  | none => rfl
  | some q =>
    obtain ⟨t, b, v⟩ := q
    have := h j t b v hg
    have h1 : Nat.beq j d = false := by cases hb : Nat.beq j d with | false => rfl | true => exact absurd (beq_eq hb) this.1
    have h2 : Nat.beq t d = false := by cases hb : Nat.beq t d with | false => rfl | true => exact absurd (beq_eq hb) this.2
    simp only [h1, h2, Bool.or_false]
theorem kn_off {s : St} (h : s.kn = fun _ => none) (d : Nat) : setF s.kn d none = s.kn := by
  funext j; unfold setF; rw [h]; cases Nat.beq j d <;> rfl

theorem app_eq {s : St} {dst : Option Nat} {oc : Oc} (hk : s.kn = fun _ => none) (h : ∀ d, dst = some d → Off s d) : s.app dst oc = ⟨envA dst oc s.env, obA oc s.ob, geA dst oc s.ge, s.kn⟩ := by
  cases dst with
  | none => cases oc <;> rfl
  | some d =>
    have h := h d rfl
    cases oc <;> simp only [St.app, St.put, St.putG, St.eff, envA, obA, geA, envC_off h, clr_off h, kn_off hk]

theorem setF_ne {α : Type} {f : Nat → α} {d j : Nat} {v : α} (h : j ≠ d) : setF f d v j = f j := by
  unfold setF
  cases hb : Nat.beq j d with
  | false => rfl
  | true => exact absurd (beq_eq hb) h
theorem setF_self {α : Type} {f : Nat → α} {d : Nat} {v : α} : setF f d v d = v := by
  unfold setF; rw [Nat.beq_refl]; rfl

theorem setF_comm {α : Type} (f : Nat → α) {d e : Nat} (v u : α) (h : d ≠ e) : setF (setF f d v) e u = setF (setF f e u) d v := by
  funext j
  by_cases h1 : j = d
  · subst h1
    rw [setF_ne h, setF_self, setF_self]
  · by_cases h2 : j = e
    · subst h2
      rw [setF_self, setF_ne h1, setF_self]
    · rw [setF_ne h2, setF_ne h1, setF_ne h1, setF_ne h2]

theorem upO_setF (l : List (Nat × O)) (n : Nat) (o : O) (h : ∀ q ∈ l, q.1 ≠ n) : ∀ ob, upO (setF ob n o) l = setF (upO ob l) n o := by
  induction l with
  | nil => intro ob; rfl
  | cons q r ih =>
    intro ob
    obtain ⟨m, o'⟩ := q
    have hm : m ≠ n := h (m, o') (List.mem_cons_self ..)
    simp only [upO]
    rw [setF_comm ob o o' (Ne.symm hm), ih fun q hq => h q (List.mem_cons_of_mem _ hq)]
theorem upO_comm (l m : List (Nat × O)) (h : ∀ p ∈ l, ∀ q ∈ m, p.1 ≠ q.1) : ∀ ob, upO (upO ob l) m = upO (upO ob m) l := by
  induction l with
  | nil => intro ob; rfl
  | cons q r ih =>
    intro ob
    obtain ⟨n, o⟩ := q
    simp only [upO]
    rw [ih fun p hp => h p (List.mem_cons_of_mem _ hp), upO_setF m n o fun p hp e => h (n, o) (List.mem_cons_self ..) p hp e.symm]

theorem okE_fr {d : Nat} {ef : Eff} (h : okE d ef = true) : ef.fr = [] ∧ ∀ p ∈ ef.up, p.1 / 1024 = d := by
  unfold okE at h
  rw [Bool.and_eq_true, List.all_eq_true] at h
  exact ⟨by simpa using h.1, fun p hp => beq_eq (h.2 p hp)⟩

theorem envA_comm {x y : Option Nat} {a b : Oc} (h : ∀ d, x = some d → y ≠ some d) (e : Nat → V) : envA y b (envA x a e) = envA x a (envA y b e) := by
  cases x with
  | none => rfl
  | some d =>
    cases y with
    | none => rfl
    | some d' =>
      have hne : d ≠ d' := fun e => h d rfl (by rw [e])
      cases a <;> cases b <;> simp only [envA] <;> exact setF_comm _ _ _ hne
theorem geA_comm {x y : Option Nat} {a b : Oc} (h : ∀ d, x = some d → y ≠ some d) (e : Nat → Option (Nat × Bool × V)) : geA y b (geA x a e) = geA x a (geA y b e) := by
  cases x with
  | none => cases y <;> cases a <;> cases b <;> rfl
  | some d =>
    cases y with
    | none => cases a <;> cases b <;> rfl
    | some d' =>
      have hne : d ≠ d' := fun e => h d rfl (by rw [e])
      cases a <;> cases b <;> simp only [geA] <;> exact setF_comm _ _ _ hne

theorem hide_upO {hid : Hd} {d : Nat} (hd : mem d hid.l = true) : ∀ (l : List (Nat × O)), (∀ p ∈ l, p.1 / 1024 = d) → ∀ ob, hide hid (upO ob l) = hide hid ob
  | [], _, _ => rfl
  | (n, o) :: r, h, ob => by
    rw [upO, hide_upO hd r fun p hp => h p (List.mem_cons_of_mem _ hp)]
    funext m
    unfold hide
    by_cases hm : m = n
    · subst hm
      rw [h (m, o) (List.mem_cons_self ..), hd]; rfl
    · rw [setF_ne hm]

theorem noRow_fr : ∀ (l : List Nat) (ob : Nat → O) (m : Nat), noRow (frO ob l m) = noRow (ob m)
  | [], _, _ => rfl
  | n :: r, ob, m => by
    rw [frO, noRow_fr r]
    by_cases hm : m = n
    · subst hm
      rw [setF_self]
      cases ob m <;> rfl
    · rw [setF_ne hm]
theorem noRow_up : ∀ (l : List (Nat × O)) (ob : Nat → O), (∀ p ∈ l, noRow p.2 = .none ∧ noRow (ob p.1) = .none) → ∀ m, noRow (upO ob l m) = noRow (ob m)
  | [], _, _, _ => rfl
  | (n, o) :: r, ob, h, m => by
    have h0 := h (n, o) (List.mem_cons_self ..)
    rw [upO, noRow_up r _ fun p hp => ⟨(h p (List.mem_cons_of_mem _ hp)).1, ?_⟩]
    · by_cases hm : m = n
      · subst hm
        rw [setF_self, h0.1, h0.2]
      · rw [setF_ne hm]
    · by_cases hm : p.1 = n
      · rw [hm, setF_self]; exact h0.1
      · rw [setF_ne hm]; exact (h p (List.mem_cons_of_mem _ hp)).2
theorem isNone_none {o : O} (h : o.isNone = true) : o = .none := by cases o <;> first | rfl | cases h
theorem hide_rows {hid : Hd} {ob : Nat → O} {ef : Eff} (hf : hid.fl = true) (h : rowsOnly ob ef = true) : hide hid (upO (frO ob ef.fr) ef.up) = hide hid ob := by
  funext m
  unfold hide
  rw [hf]
  simp only [cond_true]
  rw [noRow_up, noRow_fr]
  intro p hp
  have := List.all_eq_true.1 h p hp
  rw [Bool.and_eq_true] at this
  exact ⟨isNone_none this.1, by rw [noRow_fr]; exact isNone_none this.2⟩

theorem compat_spec {ops : Array Oper} {x y : Oper} (h : compat ops x y = true) : x.apart ops y = true ∧ (cls x.op = 3 → cls y.op = 0 ∨ cls y.op = 2) ∧ (cls y.op = 3 → cls x.op = 0 ∨ cls x.op = 2) := by
  unfold compat at h
  simp only [Bool.and_eq_true, Bool.or_eq_true, Bool.not_eq_true'] at h
  obtain ⟨h1, h2, h3⟩ := h
  refine ⟨h1, fun e => ?_, fun e => ?_⟩
  · rw [e] at h2
    exact h2.elim (fun h => by cases h) (Or.imp beq_eq beq_eq)
  · rw [e] at h3
    exact h3.elim (fun h => by cases h) (Or.imp beq_eq beq_eq)

theorem cls_cases (op : Op) : cls op = 0 ∨ cls op = 1 ∨ cls op = 2 ∨ cls op = 3 := by
  unfold cls
  split
  all_goals first
    | (simp; done)
    | (split <;> simp)

theorem gcond_same {s : St} {dst : Option Nat} {oc : Oc} (hoff : ∀ d, dst = some d → Off s d) : ∀ (n t : Nat) (b : Bool), dst ≠ some t →
    gcond ⟨envA dst oc s.env, obA oc s.ob, geA dst oc s.ge, s.kn⟩ n t b = gcond s n t b ∧ chain (geA dst oc s.ge) n t b = chain s.ge n t b := by
  have henv : ∀ t, dst ≠ some t → envA dst oc s.env t = s.env t := fun t h => by
    cases dst with
    | none => rfl
    | some d => cases oc <;> exact setF_ne (fun e => h (by rw [e]))
  have hge : ∀ t, dst ≠ some t → geA dst oc s.ge t = s.ge t := fun t h => by
    cases dst with
    | none => cases oc <;> rfl
    | some d => cases oc <;> first | rfl | exact setF_ne (fun e => h (by rw [e]))
  intro n
  induction n with
  | zero => intro t b h; exact ⟨rfl, rfl⟩
  | succ n ih =>
    intro t b h
    constructor
    · unfold gcond
      dsimp only
      rw [hge t h, henv t h]
      cases hg : s.ge t with
      | none => rfl
      | some q =>
        obtain ⟨t', b', v⟩ := q
        have : dst ≠ some t' := fun e => (hoff t' e t t' b' v hg).2 rfl
        cases v <;> first | rfl | simp only [(ih t' b' this).1]
    · unfold chain
      rw [hge t h]
      cases hg : s.ge t with
      | none => rfl
      | some q =>
        obtain ⟨t', b', v⟩ := q
        have : dst ≠ some t' := fun e => (hoff t' e t t' b' v hg).2 rfl
        simp only [(ih t' b' this).2]

theorem same_app {ops : Array Oper} {hid hx : Hd} {x y : Oper} {oc : Oc} (hk : s.kn = fun _ => none) (hoff : ∀ d, x.dst = some d → Off s d) (hoc : OcOk ops hx s x oc)
    (hlook : ∀ d, x.dst = some d → d ∉ y.looksAt ops) (h3 : cls x.op = 3 → cls y.op = 0 ∨ (cls y.op = 2 ∧ hx.fl = true ∧ hid.fl = true)) (h3' : cls y.op = 3 → cls x.op = 0 ∨ cls x.op = 2) (hhid : cls x.op = 1 → ∀ d, x.dst = some d → mem d hid.l = true) (ax : hx.al = false) (ay : hid.al = false) :
    Same ops hid y s (s.app x.dst oc) := by
  rw [app_eq hk hoff]
  have hgc := gcond_same (oc := oc) hoff
  refine ⟨rfl, fun g z hz => ?_, fun j b tj hg htj => ?_, ?_, ay⟩
  · cases z with
    | tmp t =>
      have hne : x.dst ≠ some t := fun e => hlook t e (List.mem_append_left _ (List.mem_filterMap.2 ⟨.tmp t, by simpa using hz, rfl⟩))
      have he : envA x.dst oc s.env t = s.env t := by
        cases hd : x.dst with
        | none => rfl
        | some d => cases oc <;> exact setF_ne (fun e => hne (by rw [hd, e]))
      have hge : geA x.dst oc s.ge t = s.ge t := by
        cases hd : x.dst with
        | none => cases oc <;> rfl
        | some d => cases oc <;> first | rfl | exact setF_ne (fun e => hne (by rw [hd, e]))
      simp only [St.val, he, hge]
    | _ => rfl
  · refine hgc 3 tj b fun e => hlook tj e (List.mem_append_right _ ?_)
    rw [hg]
    have : (ops[j]?).bind (·.dst) = some tj := by rw [← Array.getElem?_toList]; exact htj
    simp [this]
  · show cls y.op = 0 ∨ (cls y.op ≠ 3 ∧ hide hid (obA oc s.ob) = hide hid s.ob) ∨ obA oc s.ob = s.ob
    cases oc with
    | v _ => exact .inr (.inr rfl)
    | g _ _ _ => exact .inr (.inr rfl)
    | e ef =>
      rcases hoc with ⟨h, hr⟩ | ⟨h1, d, hd, hk⟩ | h
      rotate_left 2
      · rw [ax] at h; cases h
      · rcases h3 h with h | ⟨h2, f1, f2⟩
        · exact .inl h
        · exact .inr (.inl ⟨by rw [h2]; decide, hide_rows f2 (hr f1)⟩)
      · by_cases h : cls y.op = 3
        · have := h3' h
          rw [h1] at this; rcases this with h | h <;> cases h
        · refine .inr (.inl ⟨h, ?_⟩)
          obtain ⟨hf, hu⟩ := okE_fr hk
          simp only [obA, hf, frO]
          exact hide_upO (hhid h1 d hd) _ hu _

/-- Two operations change places. -/
theorem swap [LaidC P] {ρ : List (Entry R)} (hρ : ∀ e ∈ ρ, EntryOk P e) {ops : Array Oper} {hx hy : Hd} {x y : Oper} (hk : s.kn = fun _ => none) (ox : ∀ d, x.dst = some d → Off s d) (oy : ∀ d, y.dst = some d → Off s d)
    (hc : compat ops x y = true) (mx : cls x.op = 1 → ∀ d, x.dst = some d → mem d hy.l = true) (my : cls y.op = 1 → ∀ d, y.dst = some d → mem d hx.l = true)
    (fxy : cls x.op = 3 → cls y.op = 2 → hx.fl = true ∧ hy.fl = true) (fyx : cls y.op = 3 → cls x.op = 2 → hx.fl = true ∧ hy.fl = true) (ax : hx.al = false) (ay : hy.al = false) {K : St → Option R} {r : R}
    (h : outD P ρ ops hx x s (fun oc => outD P ρ ops hy y (s.app x.dst oc) fun oc' => K ((s.app x.dst oc).app y.dst oc')) = some r) :
    outD P ρ ops hy y s (fun oc' => outD P ρ ops hx x (s.app y.dst oc') fun oc => K ((s.app y.dst oc').app x.dst oc)) = some r := by
  obtain ⟨hap, c1, c2⟩ := compat_spec hc
  obtain ⟨a1, a2, a3⟩ := Oper.apart_spec hap
  obtain ⟨px, okx, ex⟩ := outD_bind hρ (ops := ops) hx x s
  obtain ⟨py, oky, ey⟩ := outD_bind hρ (ops := ops) hy y s
  rw [ex] at h
  rw [ey]
  cases px with
  | none => cases h
  | some ocx =>
    have hokx := okx ocx rfl
    simp only [Option.bind_some] at h
    rw [outD_same (same_app hk ox hokx a1 (fun h => (c1 h).imp id fun h2 => ⟨h2, fxy h h2⟩) c2 mx ax ay), ey] at h
    cases py with
    | none => cases h
    | some ocy =>
      have hoky := oky ocy rfl
      simp only [Option.bind_some] at h ⊢
      rw [outD_same (same_app hk oy hoky a3 (fun h => (c2 h).imp id fun h2 => ⟨h2, (fyx h h2).2, (fyx h h2).1⟩) c1 my ay ax), ex]
      simp only [Option.bind_some]
      rw [← h]
      congr 1
      -- the states are the same
      have offx : ∀ d, x.dst = some d → Off (s.app y.dst ocy) d := fun d hd j i b v hg => by
        rw [app_eq hk oy] at hg
        simp only at hg
        cases hyd : y.dst with
        | none => rw [hyd] at hg; cases ocy <;> exact ox d hd j i b v hg
        | some e =>
          rw [hyd] at hg
          have hne : e ≠ d := fun e' => a2 d hd (by rw [hyd, e'])
          cases ocy with
          | v _ => exact ox d hd j i b v hg
          | e _ => exact ox d hd j i b v hg
          | g t b' v' =>
            simp only [geA] at hg
            by_cases hj : j = e
            · subst hj
              rw [setF_self] at hg
              obtain ⟨rfl, rfl, rfl⟩ : t = i ∧ b' = b ∧ v' = v := by simpa using hg
              obtain ⟨⟨jj, hgd, htj⟩, -⟩ := hoky
              refine ⟨hne, fun e' => a1 d hd (List.mem_append_right _ ?_)⟩
              rw [hgd]
              have : (ops[jj]?).bind (·.dst) = some t := by rw [← Array.getElem?_toList]; exact htj
              simp [this, e']
            · rw [setF_ne hj] at hg; exact ox d hd j i b v hg
      have offy : ∀ d, y.dst = some d → Off (s.app x.dst ocx) d := fun d hd j i b v hg => by
        rw [app_eq hk ox] at hg
        simp only at hg
        cases hxd : x.dst with
        | none => rw [hxd] at hg; cases ocx <;> exact oy d hd j i b v hg
        | some e =>
          rw [hxd] at hg
          have hne : e ≠ d := fun e' => a2 e hxd (by rw [hd, e'])
          cases ocx with
          | v _ => exact oy d hd j i b v hg
          | e _ => exact oy d hd j i b v hg
          | g t b' v' =>
            simp only [geA] at hg
            by_cases hj : j = e
            · subst hj
              rw [setF_self] at hg
              obtain ⟨rfl, rfl, rfl⟩ : t = i ∧ b' = b ∧ v' = v := by simpa using hg
              obtain ⟨⟨jj, hgd, htj⟩, -⟩ := hokx
              refine ⟨hne, fun e' => a3 d hd (List.mem_append_right _ ?_)⟩
              rw [hgd]
              have : (ops[jj]?).bind (·.dst) = some t := by rw [← Array.getElem?_toList]; exact htj
              simp [this, e']
            · rw [setF_ne hj] at hg; exact oy d hd j i b v hg
      have k1 : (s.app y.dst ocy).kn = fun _ => none := by rw [app_eq hk oy]; exact hk
      have k2 : (s.app x.dst ocx).kn = fun _ => none := by rw [app_eq hk ox]; exact hk
      rw [app_eq k1 offx, app_eq k2 offy, app_eq hk ox, app_eq hk oy]
      simp only
      have hob : obA ocx (obA ocy s.ob) = obA ocy (obA ocx s.ob) := by
        cases ocx with
        | v _ => rfl
        | g _ _ _ => rfl
        | e ex =>
          cases ocy with
          | v _ => rfl
          | g _ _ _ => rfl
          | e ey =>
            rcases hokx with ⟨hx3, -⟩ | ⟨hx1, d, hd, hkx⟩ | hx4
            rotate_left 2
            · rw [ax] at hx4; cases hx4
            · rcases hoky with ⟨hy3, -⟩ | ⟨hy1, -⟩ | hy4
              rotate_left 2
              · rw [ay] at hy4; cases hy4
              · have := c1 hx3; rw [hy3] at this; rcases this with h | h <;> cases h
              · have := c1 hx3; rw [hy1] at this; rcases this with h | h <;> cases h
            · rcases hoky with ⟨hy3, -⟩ | ⟨-, d', hd', hky⟩ | hy4
              rotate_left 2
              · rw [ay] at hy4; cases hy4
              · have := c2 hy3
                rw [hx1] at this; rcases this with h | h <;> cases h
              · obtain ⟨f1, u1⟩ := okE_fr hkx
                obtain ⟨f2, u2⟩ := okE_fr hky
                simp only [obA, f1, f2, frO]
                refine upO_comm _ _ (fun p hp q hq e => ?_) _
                have := u2 p hp
                rw [e, u1 q hq] at this
                exact a2 d hd (by rw [hd', this])
      rw [hob, envA_comm a2, geA_comm a2]

/-! ### One operation, done -/
theorem outD_sound [LaidC P] {ρ : List (Entry R)} (hρ : ∀ e ∈ ρ, EntryOk P e) (Rl : Rel P nt w0 G s a w) {ops : Array Oper} (hdt : ∀ o ∈ ops.toList, ∀ d, o.dst = some d → nt.dn d) {o : Oper} (hd : ∀ d, o.dst = some d → nt.dn d) {hid : Hd} {k : Oc → Option R} {r : R}
    (h : outD P ρ ops hid o s k = some r) {next : Act → World → Prop} {Q : Exit → Act → World → Prop} (hn : ∀ oc a' w', OcOk ops hid s o oc → Good P nt w0 (s.app o.dst oc) a' w' → k oc = some r → next a' w') :
    if Region.wanted o (yielded ops a.tmps) = true then o.wp P a w next Q ∨ (o.asks P a w ∧ LetsOut Q) else next (a.put o.dst undef) w := by
  have hle := hide_le hid s.ob
  have hnil : ChOk a [] := fun _ _ h => by cases h
  unfold outD at h
  split at h
  · rename_i hgd
    rw [if_pos (by simp [Region.wanted, hgd])]
    refine .inl ?_
    split at h
    · rename_i c x y ho
      split at h
      · rename_i v hv
        obtain ⟨u, hr, ru⟩ := pickV_sound Rl hnil hv ho
        unfold Oper.wp
        rw [hr]
        exact hn (.v v) _ _ trivial ⟨G, Rl.put ru o.dst hd⟩ h
      · cases h
    · rename_i f args argTypes ho
      split at h
      · rename_i hal
        split at h
        · rename_i e fs cs he
          obtain ⟨hmem, hfv⟩ := findV_mem he
          obtain ⟨fv, cv, hxf, hrf, hrc⟩ := fn_val hfv (val_sound Rl hnil f)
          have ok := hρ e hmem
          have hvs : RelVs P G s.ob w (fs ++ (args.toList.map (s.val []) ++ cs)) (fv.toList ++ (args.toList.map a.eval ++ cv.toList)) := relVs_append hrf (relVs_append (relVs_map (fun x => val_sound Rl hnil x) _) hrc)
          obtain ⟨ef, hk, hcall⟩ := ok.run Rl hvs h
          unfold Oper.wp
          rw [run_call ok.enter ho a hxf]
          refine hcall.mono fun en w' hen => ?_
          obtain ⟨u, G', rfl, R', ru⟩ := hen
          refine hn (.e ef) _ _ (.inr (.inr hal)) ⟨G', ?_⟩ hk
          simp only [St.app, eff_eq]
          exact R'.put ru o.dst hd
        · cases h
      split at h
      · rename_i e fs cs d he hdd
        split at h
        · rename_i hm
          obtain ⟨hmem, hfv⟩ := findV_mem he
          obtain ⟨fv, cv, hxf, hrf, hrc⟩ := fn_val hfv (val_sound Rl hnil f)
          have ok := hρ e hmem
          have hvs : RelVs P G s.ob w (fs ++ (args.toList.map (s.val []) ++ cs)) (fv.toList ++ (args.toList.map a.eval ++ cv.toList)) := relVs_append hrf (relVs_append (relVs_map (fun x => val_sound Rl hnil x) _) hrc)
          rw [Bool.or_eq_false_iff] at hm
          have h' := ok.mono hle (fun n hn => by unfold hide; rw [hn, hm.1, hm.2]; rfl) h
          obtain ⟨ef, hk, hcall⟩ := ok.run Rl hvs h'
          unfold Oper.wp
          rw [run_call ok.enter ho a hxf]
          refine hcall.mono fun en w' hen => ?_
          obtain ⟨u, G', rfl, R', ru⟩ := hen
          split at hk
          · rename_i hok
            refine hn (.e ef) _ _ (.inr (.inl ⟨by rw [ho]; rfl, d, hdd, hok⟩)) ⟨G', ?_⟩ hk
            simp only [St.app, eff_eq]
            exact R'.put ru o.dst hd
          · cases hk
        · cases h
      · cases h
    · split at h
      · rename_i h3
        split at h
        · rename_i c ef he
          split at h
          · rename_i hfl
            obtain ⟨hc, hk⟩ := gdo_some h
            obtain ⟨G', u, w', hr, R', ru⟩ := effOp_sound o.op Rl (fun x => val_sound Rl hnil x) (fun _ => rfl) rfl he hc
            unfold Oper.wp
            have fin : next (a.put o.dst u) w' := hn (.e ef) _ _ (.inl ⟨Nat.eq_of_beq_eq_true h3, fun h => by rw [h] at hfl; simpa using hfl⟩) ⟨G', by simp only [St.app, eff_eq]; exact R'.put ru o.dst hd⟩ hk
            rcases hr with hr | ⟨hr, rfl⟩
            · rw [hr]; exact fin
            · rw [hr]; exact fin
          · cases h
        · cases h
      · split at h
        · rename_i c v hp
          obtain ⟨hc, hk⟩ := gdo_some h
          obtain ⟨u, hr, ru⟩ := pureOp_sound Rl.ob (fun x => val_sound Rl hnil x) (fun _ => rfl) (pureOp_mono hle hp) hc
          unfold Oper.wp
          rw [hr]
          exact hn (.v v) _ _ trivial ⟨G, Rl.put ru o.dst hd⟩ hk
        · split at h
          · rename_i d hdd
            split at h
            · rename_i h1
              rw [Bool.and_eq_true] at h1
              have hm : (mem d hid.l || hid.fl) = false := by
                have := h1.2
                cases hq : (mem d hid.l || hid.fl) with
                | false => rfl
                | true => rw [hq] at this; cases this
              rw [Bool.or_eq_false_iff] at hm
              split at h
              · rename_i c ef he
                split at h
                · rename_i hok
                  obtain ⟨hc, hk⟩ := gdo_some h
                  have hcl : cls o.op = 1 := Nat.eq_of_beq_eq_true h1.1
                  have hdd0 : (1024 * d) / 1024 = d := Nat.mul_div_cancel_left d (by decide)
                  have he' := effOp_mono hle (show s.ob (1024 * d) = hide hid s.ob (1024 * d) by unfold hide; rw [hdd0, hm.1, hm.2]; rfl) hcl he
                  obtain ⟨G', u, w', hr, R', ru⟩ := effOp_sound o.op Rl (fun x => val_sound Rl hnil x) (fun _ => rfl) (o := o) (d := d) (by first | rfl | exact hdd) he' hc
                  unfold Oper.wp
                  have fin : next (a.put o.dst u) w' := hn (.e ef) _ _ (.inr (.inl ⟨hcl, d, hdd, hok⟩)) ⟨G', by simp only [St.app, eff_eq]; exact R'.put ru o.dst hd⟩ hk
                  rcases hr with hr | ⟨hr, rfl⟩
                  · rw [hr]; exact fin
                  · rw [hr]; exact fin
                · cases h
              · cases h
            · cases h
          · cases h
  · rename_i j want hgd
    split at h
    · cases h
    · rename_i tj htj
      have htj' : (ops[j]?).bind (·.dst) = some tj := by rw [← Array.getElem?_toList]; exact htj
      have htjlt : tj < a.tmps.size := by
        rw [Rl.size]
        cases hoj : ops[j]? with
        | none => rw [hoj] at htj'; cases htj'
        | some oj => rw [hoj] at htj'; exact (hdt oj (by simpa using Array.mem_of_getElem? hoj) tj (by simpa using htj')).1
      have hwant : Region.wanted o (yielded ops a.tmps) = true ↔ a.tmps.getD tj undef = .bool want := by
        simp only [Region.wanted, hgd]
        exact yielded_iff htj' htjlt want
      split at h
      · cases h
      · rename_i hne
        have hne' : ∀ d, o.dst = some d → nt.dn d ∧ tj ≠ d := fun d hdd => ⟨hd d hdd, fun e => by rw [hdd] at hne; simp [e] at hne⟩
        have hok : ∀ v, OcOk ops hid s o (.g tj want v) := fun v => ⟨⟨j, hgd, htj⟩, fun h => by rw [h] at hne; simp at hne⟩
        split at h
        · cases h
        · rename_i x hx
          have hgc := gcond_ok Rl 3 tj want x hx
          have hchain : x = true → ChOk a (chain s.ge 3 tj want) := fun h => chain_ok Rl 3 tj want (hgc.2 h)
          have off : ¬ (x = true) → ∀ v, Good P nt w0 (s.putG o.dst tj want v) (a.put o.dst undef) w := fun hxf v =>
            ⟨G, Rl.putG (fun h => absurd (hgc.1 h) hxf) (fun _ => rfl) o.dst hne'⟩
          have on : x = true → ∀ {G' v u w'}, Rel P nt w0 G' s a w' → RelV P G' s.ob w' v u → Good P nt w0 (s.putG o.dst tj want v) (a.put o.dst u) w' := fun hxt G' v u w' R' ru =>
            ⟨G', R'.putG (fun _ => ru) (fun h => absurd (hgc.2 hxt) h) o.dst hne'⟩
          by_cases hxt : x = true
          · rw [if_pos (hwant.2 (hgc.2 hxt))]
            refine .inl ?_
            split at h
            · rename_i c x' y' ho
              split at h
              · rename_i v hv
                obtain ⟨u, hr, ru⟩ := pickV_sound Rl (hchain hxt) hv ho
                unfold Oper.wp
                rw [hr]
                exact hn (.g tj want v) _ _ (hok v) (on hxt Rl ru) h
              · cases h
            · rename_i f args argTypes ho
              split at h
              · rename_i e fs cs he
                obtain ⟨hm, hfv⟩ := findV_mem he
                obtain ⟨fv, cv, hxf, hrf, hrc⟩ := fn_val hfv (val_sound Rl (hchain hxt) f)
                have ok := hρ e hm
                obtain ⟨v, hk, hcall⟩ := ok.runG Rl (vals := fv.toList ++ (args.toList.map a.eval ++ cv.toList)) (fun hx => relVs_append hrf (relVs_append (relVs_map (fun y => val_sound Rl (hchain hxt) y) args.toList) hrc)) (ok.monoG hle h)
                unfold Oper.wp
                rw [run_call ok.enter ho a hxf]
                refine (hcall hxt).mono fun en w' hen => ?_
                obtain ⟨u, G', rfl, R', ru⟩ := hen
                exact hn (.g tj want v) _ _ (hok v) (on hxt R' ru) hk
              · cases h
            · split at h
              · rename_i c v hp
                obtain ⟨hc, hk⟩ := gdo_some h
                have hc' : ∀ b, c = some b → b = true := fun b hb => by
                  have := hc (!x || b) (by rw [hb]; rfl)
                  rw [hxt] at this; simpa using this
                obtain ⟨u, hr, ru⟩ := pureOp_sound Rl.ob (fun y => val_sound Rl (hchain hxt) y) (fun _ => rfl) (pureOp_mono hle hp) hc'
                unfold Oper.wp
                rw [hr]
                exact hn (.g tj want v) _ _ (hok v) (on hxt Rl ru) hk
              · rw [hxt] at h
                split at h
                · rename_i h3
                  split at h
                  · rename_i c ef he
                    split at h
                    · rename_i hfl
                      obtain ⟨hc, hk⟩ := gdo_some (show gdo c (k (.e ef)) = some r from h)
                      obtain ⟨G', u, w', hr, R', ru⟩ := effOp_sound o.op Rl (fun y => val_sound Rl (hchain hxt) y) (fun _ => rfl) rfl he hc
                      unfold Oper.wp
                      have fin : next (a.put o.dst u) w' := hn (.e ef) _ _ (.inl ⟨Nat.eq_of_beq_eq_true h3, fun h => by rw [h] at hfl; simpa using hfl⟩) ⟨G', by simp only [St.app, eff_eq]; exact R'.put ru o.dst hd⟩ hk
                      rcases hr with hr | ⟨hr, rfl⟩
                      · rw [hr]; exact fin
                      · rw [hr]; exact fin
                    · cases h
                  · cases h
                · split at h
                  · rename_i d hdd
                    split at h
                    · rename_i h1
                      rw [Bool.and_eq_true] at h1
                      have hm : (mem d hid.l || hid.fl) = false := by
                        have := h1.2
                        cases hq : (mem d hid.l || hid.fl) with
                        | false => rfl
                        | true => rw [hq] at this; cases this
                      rw [Bool.or_eq_false_iff] at hm
                      split at h
                      · rename_i c ef he
                        split at h
                        · rename_i hok'
                          obtain ⟨hc, hk⟩ := gdo_some (show gdo c (k (.e ef)) = some r from h)
                          have hcl : cls o.op = 1 := Nat.eq_of_beq_eq_true h1.1
                          have hdd0 : (1024 * d) / 1024 = d := Nat.mul_div_cancel_left d (by decide)
                          have he' := effOp_mono hle (show s.ob (1024 * d) = hide hid s.ob (1024 * d) by unfold hide; rw [hdd0, hm.1, hm.2]; rfl) hcl he
                          obtain ⟨G', u, w', hr, R', ru⟩ := effOp_sound o.op Rl (fun y => val_sound Rl (hchain hxt) y) (fun _ => rfl) (o := o) (d := d) (by first | rfl | exact hdd) he' hc
                          unfold Oper.wp
                          have fin : next (a.put o.dst u) w' := hn (.e ef) _ _ (.inr (.inl ⟨hcl, d, hdd, hok'⟩)) ⟨G', by simp only [St.app, eff_eq]; exact R'.put ru o.dst hd⟩ hk
                          rcases hr with hr | ⟨hr, rfl⟩
                          · rw [hr]; exact fin
                          · rw [hr]; exact fin
                        · cases h
                      · cases h
                    · cases h
                  · cases h
          · rw [if_neg (fun hw => hxt (hgc.1 (hwant.1 hw)))]
            split at h
            · split at h
              · exact hn (.g tj want _) _ _ (hok _) (off hxt _) h
              · cases h
            · rename_i f args argTypes ho
              split at h
              · rename_i e fs cs he
                obtain ⟨hm, -⟩ := findV_mem he
                obtain ⟨v, hk, -⟩ := (hρ e hm).runG Rl (vals := args.toList.map a.eval) (fun hx => absurd hx hxt) ((hρ e hm).monoG hle h)
                exact hn (.g tj want _) _ _ (hok _) (off hxt _) hk
              · cases h
            · split at h
              · obtain ⟨-, hk⟩ := gdo_some h
                exact hn (.g tj want _) _ _ (hok _) (off hxt _) hk
              · have hxf : x = false := by cases x <;> simp_all
                rw [hxf] at h
                have skip : k (.v .z) = some r → next (a.put o.dst undef) w := fun h => hn (.v .z) _ _ trivial ⟨G, Rl.put (by simp only [RelV]) o.dst hd⟩ h
                split at h
                · split at h
                  · split at h
                    · exact skip h
                    · cases h
                  · exact skip h
                · split at h
                  · split at h
                    · split at h
                      · split at h
                        · exact skip h
                        · exact skip h
                      · exact skip h
                    · exact skip h
                  · exact skip h
end Go.Pv

namespace Go.Pv
open RowKit
variable {P : Program} {G G' : Gh} {w w' w0 : World} {nt : Cx} {s s' : St} {a : Act} {R : Type}

/-- What 'okReg' says. -/
structure Facts (ops : Array Oper) (D : List Nat) : Prop where
  dep : ∀ (i : Nat) (o : Oper), ops[i]? = some o → ngetL D i = depM D o.after.toList
  low : ∀ (i : Nat) (o : Oper), ops[i]? = some o → ∀ e ∈ o.after.toList, bindB e = true → e.on < i
  grd : ∀ (i : Nat) (o : Oper), ops[i]? = some o → ∀ (j : Nat) (b : Bool), o.guard = some (j, b) → Nat.testBit (ngetL D i) j = true
  dis : ∀ (i : Nat) (o : Oper), ops[i]? = some o → ∀ (k : Nat) (x : Oper), k < i → ops[k]? = some x → ∀ d, x.dst = some d → o.dst ≠ some d
  com : ∀ (i : Nat) (o : Oper), ops[i]? = some o → ∀ (k : Nat) (x : Oper), k < i → ops[k]? = some x → Nat.testBit (ngetL D i) k = false → compat ops x o = true

theorem okPair_spec {ops : Array Oper} {Di : Nat} {o : Oper} : ∀ (l : List Oper) (k : Nat), okPair ops Di o k l = true → ∀ j x, l[j]? = some x → disD x o = true ∧ (Nat.testBit Di (k + j) = true ∨ compat ops x o = true)
  | [], k, _, j, x, h => by simp at h
  | y :: r, k, h, j, x, hx => by
    simp only [okPair, Bool.and_eq_true, Bool.or_eq_true] at h
    cases j with
    | zero =>
      obtain rfl : y = x := by simpa using hx
      exact ⟨h.1, h.2.1⟩
    | succ j =>
      have := okPair_spec r (k + 1) h.2.2 j x (by simpa using hx)
      rw [show k + 1 + j = k + (j + 1) from by omega] at this
      exact this

theorem okOps_spec {ops : Array Oper} {D : List Nat} : ∀ (l pre : List Oper), okOps ops D pre.length pre l = true → ∀ j o, l[j]? = some o →
    ngetL D (pre.length + j) = depM D o.after.toList ∧ (o.after.toList.all fun e => !(bindB e) || Nat.blt e.on (pre.length + j)) = true ∧
    (match o.guard with | some (g, _) => Nat.testBit (ngetL D (pre.length + j)) g | none => true) = true ∧ okPair ops (ngetL D (pre.length + j)) o 0 (pre ++ l.take j) = true
  | [], pre, _, j, o, h => by simp at h
  | y :: r, pre, h, j, o, ho => by
    simp only [okOps, Bool.and_eq_true] at h
    obtain ⟨h1, h2, h3, h4, h5⟩ := h
    cases j with
    | zero =>
      obtain rfl : y = o := by simpa using ho
      exact ⟨beq_eq h1, h2, h3, by simpa using h4⟩
    | succ j =>
      have := okOps_spec r (pre ++ [y]) (by simpa using h5) j o (by simpa using ho)
      simp only [List.length_append, List.length_singleton, List.append_assoc, List.singleton_append] at this
      rw [show pre.length + 1 + j = pre.length + (j + 1) from by omega] at this
      simpa using this

theorem facts {ops : Array Oper} (h : okReg ops = true) : Facts ops (cloM [] ops.toList) := by
  have H := okOps_spec (ops := ops) (D := cloM [] ops.toList) ops.toList [] h
  simp only [List.length_nil, Nat.zero_add, List.nil_append] at H
  have get : ∀ {i o}, ops[i]? = some o → ops.toList[i]? = some o := fun {i o} h => by rw [Array.getElem?_toList]; exact h
  refine ⟨fun i o ho => (H i o (get ho)).1, fun i o ho e he hb => ?_, fun i o ho j b hg => ?_, fun i o ho k x hk hx d hd => ?_, fun i o ho k x hk hx hb => ?_⟩
  · have := List.all_eq_true.1 (H i o (get ho)).2.1 e he
    rw [hb] at this
    exact blt_lt (by simpa using this)
  · have := (H i o (get ho)).2.2.1
    rw [hg] at this
    exact this
  · have := (okPair_spec _ 0 (H i o (get ho)).2.2.2 k x (by rw [List.getElem?_take, if_pos hk]; exact get hx)).1
    intro e
    unfold disD at this
    rw [hd, e] at this
    simp at this
  · have := (okPair_spec _ 0 (H i o (get ho)).2.2.2 k x (by rw [List.getElem?_take, if_pos hk]; exact get hx)).2
    rw [Nat.zero_add, hb] at this
    exact this.elim (fun h => by cases h) id

theorem bind_any (e : Edge) : Region.binds .any e = bindB e := by
  unfold Region.binds bindB
  cases e.ground <;> rfl

theorem depM_bit {D : List Nat} {k : Nat} : ∀ {es : List Edge}, Nat.testBit (depM D es) k = true → ∃ e ∈ es, bindB e = true ∧ (k = e.on ∨ Nat.testBit (ngetL D e.on) k = true)
  | [], h => by simp [depM] at h
  | e :: r, h => by
    unfold depM at h
    split at h
    · rename_i hb
      have h' : (Nat.testBit (2 ^ e.on ||| ngetL D e.on ||| depM D r) k) = true := h
      rw [Nat.testBit_or, Nat.testBit_or, Nat.testBit_two_pow] at h'
      simp only [Bool.or_eq_true, decide_eq_true_eq] at h'
      rcases h' with (h | h) | h
      · exact ⟨e, List.mem_cons_self .., hb, .inl h.symm⟩
      · exact ⟨e, List.mem_cons_self .., hb, .inr h⟩
      · obtain ⟨e', he', h'⟩ := depM_bit h
        exact ⟨e', List.mem_cons_of_mem _ he', h'⟩
    · obtain ⟨e', he', h'⟩ := depM_bit h
      exact ⟨e', List.mem_cons_of_mem _ he', h'⟩

theorem ngetL_out : ∀ (D : List Nat) (i : Nat), D.length ≤ i → ngetL D i = 0
  | [], _, _ => rfl
  | _ :: r, 0, h => by simp at h
  | _ :: r, i + 1, h => ngetL_out r i (by simpa using h)

/-- What is depended on comes before. -/
theorem bit_lt {ops : Array Oper} {D : List Nat} (F : Facts ops D) : ∀ (i : Nat) (o : Oper) (k : Nat), ops[i]? = some o → Nat.testBit (ngetL D i) k = true → k < i := by
  intro i
  induction i using Nat.strongRecOn with
  | _ i ih =>
    intro o k ho hk
    rw [F.dep i o ho] at hk
    obtain ⟨e, he, hb, h⟩ := depM_bit hk
    have hlt := F.low i o ho e he hb
    rcases h with rfl | h
    · exact hlt
    · have hget : e.on < ops.size := Nat.lt_trans hlt (Array.getElem?_eq_some_iff.1 ho).1
      exact Nat.lt_trans (ih e.on hlt ops[e.on] k (Array.getElem?_eq_getElem hget) h) hlt

/-- What is listed has all that it stands behind listed. -/
def Closed (ops : Array Oper) (L : Nat → Prop) : Prop := ∀ i o, ops[i]? = some o → L i → ∀ e ∈ o.after.toList, bindB e = true → L e.on

theorem bit_listed {ops : Array Oper} {D : List Nat} (F : Facts ops D) {L : Nat → Prop} (hc : Closed ops L) : ∀ (i : Nat) (o : Oper) (k : Nat), ops[i]? = some o →
    (∀ e ∈ o.after.toList, bindB e = true → L e.on) → Nat.testBit (ngetL D i) k = true → L k := by
  intro i
  induction i using Nat.strongRecOn with
  | _ i ih =>
    intro o k ho hl hk
    rw [F.dep i o ho] at hk
    obtain ⟨e, he, hb, h⟩ := depM_bit hk
    have hlt := F.low i o ho e he hb
    rcases h with rfl | h
    · exact hl e he hb
    · have hget : e.on < ops.size := Nat.lt_trans hlt (Array.getElem?_eq_some_iff.1 ho).1
      have hoe := Array.getElem?_eq_getElem hget
      exact ih e.on hlt ops[e.on] k hoe (hc e.on _ hoe (hl e he hb)) h

theorem hidL_mem {Di i : Nat} : ∀ (l : List Oper) (k0 j : Nat) (o : Oper) (d : Nat), l[j]? = some o → o.dst = some d → cls o.op = 1 → k0 + j ≠ i → Nat.testBit Di (k0 + j) = false → mem d (hidL Di i k0 l) = true
  | [], _, _, _, _, h, _, _, _, _ => by simp at h
  | y :: r, k0, j, o, d, h, hd, hc, hne, hb => by
    unfold hidL
    cases j with
    | zero =>
      obtain rfl : y = o := by simpa using h
      have h1 : Nat.beq (k0 + 0) i = false := by cases hb' : Nat.beq (k0 + 0) i with | false => rfl | true => exact absurd (beq_eq hb') hne
      rw [Nat.add_zero] at hb h1
      rw [hd, hc, h1, hb]
      show (Nat.beq d d || _) = true
      rw [Nat.beq_refl]; rfl
    | succ j =>
      have ih := hidL_mem (Di := Di) (i := i) r (k0 + 1) j o d (by simpa using h) hd hc (by omega) (by rw [← hb, show k0 + 1 + j = k0 + (j + 1) from by omega])
      split
      · show (_ || mem d _) = true
        rw [ih, Bool.or_true]
      · exact ih

theorem apartC_mem {c Di i : Nat} {D : List Nat} : ∀ (l : List Oper) (k0 j : Nat) (o : Oper), l[j]? = some o → cls o.op = c → Nat.testBit Di (k0 + j) = false → Nat.testBit (ngetL D (k0 + j)) i = false → apartC c Di i D k0 l = true
  | [], _, _, _, h, _, _, _ => by simp at h
  | y :: r, k0, j, o, h, hc, h1, h2 => by
    unfold apartC
    cases j with
    | zero =>
      obtain rfl : y = o := by simpa using h
      rw [Nat.add_zero] at h1 h2
      rw [hc, h1, h2, Nat.beq_refl]; rfl
    | succ j =>
      rw [apartC_mem r (k0 + 1) j o (by simpa using h) hc (by rw [← h1, show k0 + 1 + j = k0 + (j + 1) from by omega]) (by rw [← h2, show k0 + 1 + j = k0 + (j + 1) from by omega]), Bool.or_true]

/-- Nothing hangs on what is still to come. -/
theorem alone_mem {Di i : Nat} {D : List Nat} : ∀ (l : List Oper) (k0 j : Nat) (o : Oper), l[j]? = some o → k0 + j ≠ i → Nat.testBit Di (k0 + j) = false → Nat.testBit (ngetL D (k0 + j)) i = false → alone Di i D k0 l = false
  | [], _, j, _, h, _, _, _ => by simp at h
  | x :: r, k0, 0, o, h, hne, h1, h2 => by
    rw [Nat.add_zero] at hne h1 h2
    have hb : Nat.beq k0 i = false := by
      cases hq : Nat.beq k0 i with
      | false => rfl
      | true => exact absurd (Nat.eq_of_beq_eq_true hq) hne
    simp only [alone, hb, h1, h2, Bool.or_self, Bool.false_and]
  | x :: r, k0, j + 1, o, h, hne, h1, h2 => by
    have e : k0 + 1 + j = k0 + (j + 1) := by omega
    have := alone_mem (Di := Di) (i := i) (D := D) r (k0 + 1) j o (by simpa using h) (by rw [e]; exact hne) (by rw [e]; exact h1) (by rw [e]; exact h2)
    simp only [alone, this, Bool.and_false]
def Inv (ops : Array Oper) (s : St) (U : List Nat) : Prop := s.kn = (fun _ => none) ∧ ∀ k ∈ U, ∀ o, ops[k]? = some o → ∀ d, o.dst = some d → Off s d

theorem Inv.app {ops : Array Oper} {D : List Nat} (F : Facts ops D) {s : St} {i : Nat} {U : List Nat} {o : Oper} {oc : Oc} (hI : Inv ops s (i :: U)) (ho : ops[i]? = some o) (hU : i ∉ U) (hg : ∀ k ∈ U, Nat.testBit (ngetL D i) k = false) {hid : Hd} {s1 : St} (hoc : OcOk ops hid s1 o oc) :
    Inv ops (s.app o.dst oc) U := by
  have hoff : ∀ d, o.dst = some d → Off s d := hI.2 i (List.mem_cons_self ..) o ho
  rw [app_eq hI.1 hoff]
  refine ⟨hI.1, fun k hk x hx d hd j t b v hgj => ?_⟩
  have old := hI.2 k (List.mem_cons_of_mem _ hk) x hx d hd
  simp only at hgj
  cases hod : o.dst with
  | none => rw [hod] at hgj; cases oc <;> exact old j t b v hgj
  | some e =>
    rw [hod] at hgj
    cases oc with
    | v _ => exact old j t b v hgj
    | e _ => exact old j t b v hgj
    | g t' b' v' =>
      simp only [geA] at hgj
      by_cases hj : j = e
      · subst hj
        rw [setF_self] at hgj
        obtain ⟨rfl, rfl, rfl⟩ : t' = t ∧ b' = b ∧ v' = v := by simpa using hgj
        have hki : k ≠ i := fun e => hU (e ▸ hk)
        constructor
        · -- destinations differ
          intro e
          subst e
          rcases Nat.lt_or_gt_of_ne hki with h | h
          · exact F.dis i o ho k x h hx j hd hod
          · exact F.dis k x hx i o h ho j hod hd
        · obtain ⟨⟨jj, hgd, htj⟩, -⟩ := hoc
          intro e
          subst e
          cases hjo : ops.toList[jj]? with
          | none => rw [hjo] at htj; cases htj
          | some oj =>
            rw [hjo] at htj
            have hjd : oj.dst = some t' := by simpa using htj
            have hjo' : ops[jj]? = some oj := by rw [← Array.getElem?_toList]; exact hjo
            have hbit := F.grd i o ho jj b' hgd
            have hkj : k ≠ jj := fun e => by rw [← e, hg k hk] at hbit; cases hbit
            rcases Nat.lt_or_gt_of_ne hkj with h | h
            · exact F.dis jj oj hjo' k x h hx t' hd hjd
            · exact F.dis k x hx jj oj h hjo' t' hjd hd
      · rw [setF_ne hj] at hgj
        exact old j t b v hgj
end Go.Pv

namespace Go.Pv
open RowKit
variable {P : Program} {G G' : Gh} {w w' w0 : World} {nt : Cx} {s s' : St} {a : Act} {R : Type}

theorem toL {ops : Array Oper} {i : Nat} {o : Oper} (h : ops.toList[i]? = some o) : ops[i]? = some o := by rw [← Array.getElem?_toList]; exact h

theorem bubble [LaidC P] {ρ : List (Entry R)} (hρ : ∀ e ∈ ρ, EntryOk P e) {ops : Array Oper} {D : List Nat} (F : Facts ops D) {i : Nat} {q : List Nat} {kk : St → Option R} {r : R} :
    ∀ (p : List Nat) (s : St), Inv ops s (p ++ i :: q) → (p ++ i :: q).Pairwise (· < ·) → (∀ x ∈ p, Nat.testBit (ngetL D i) x = false) →
    regD P ρ ops D (p ++ i :: q) s kk = some r → regD P ρ ops D (i :: (p ++ q)) s kk = some r
  | [], s, _, _, _, h => h
  | x :: p, s, hI, hs, hb, h => by
    have hs' := List.pairwise_cons.1 hs
    have hxi : x < i := hs'.1 i (by simp)
    rw [List.cons_append, regD] at h
    cases hx : ops.toList[x]? with
    | none => rw [hx] at h; cases h
    | some ox =>
      rw [hx] at h
      simp only at h
      have hx' := toL hx
      obtain ⟨px, okx, ex⟩ := outD_bind hρ (ops := ops) (hdOf D x ox ops.toList) ox s
      have later : ∀ k ∈ p ++ i :: q, Nat.testBit (ngetL D x) k = false := fun k hk => by
        cases hbk : Nat.testBit (ngetL D x) k with
        | false => rfl
        | true => have := bit_lt F x ox k hx' hbk; have := hs'.1 k hk; omega
      have h2 : outD P ρ ops (hdOf D x ox ops.toList) ox s (fun oc => regD P ρ ops D (i :: (p ++ q)) (s.app ox.dst oc) kk) = some r := by
        rw [ex] at h ⊢
        cases px with
        | none => cases h
        | some oc =>
          refine bubble hρ F p _ (Inv.app F hI hx' (fun hm => by have := hs'.1 x hm; omega) later (okx oc rfl)) hs'.2 (fun y hy => hb y (List.mem_cons_of_mem _ hy)) h
      cases hi : ops.toList[i]? with
      | none =>
        rw [ex] at h2
        cases px with
        | none => cases h2
        | some oc =>
          simp only [Option.bind_some] at h2
          rw [regD, hi] at h2; cases h2
      | some oi =>
        have hi' := toL hi
        have h3 : outD P ρ ops (hdOf D x ox ops.toList) ox s (fun oc => outD P ρ ops (hdOf D i oi ops.toList) oi (s.app ox.dst oc) fun oc' => regD P ρ ops D (p ++ q) ((s.app ox.dst oc).app oi.dst oc') kk) = some r := by
          rw [← h2]
          congr 1
          funext oc
          rw [regD, hi]
        have hbx := hb x (List.mem_cons_self ..)
        have hlx := later i (by simp)
        have h4 := swap hρ hI.1 (hI.2 x (by simp) ox hx') (hI.2 i (by simp) oi hi') (F.com i oi hi' x ox hxi hx' (hb x (List.mem_cons_self ..))) (fun c1 d hd => hidL_mem ops.toList 0 x ox d hx hd c1 (by omega) (by rw [Nat.zero_add]; exact hbx)) (fun c1 d hd => hidL_mem ops.toList 0 i oi d hi hd c1 (by omega) (by rw [Nat.zero_add]; exact hlx))
          (fun c3 c2 => ⟨by simp only [hdOf, c3, apartC_mem (c := 2) ops.toList 0 i oi hi c2 (by rw [Nat.zero_add]; exact hlx) (by rw [Nat.zero_add]; exact hbx)]; rfl, by simp only [hdOf, c2, apartC_mem (c := 3) ops.toList 0 x ox hx c3 (by rw [Nat.zero_add]; exact hbx) (by rw [Nat.zero_add]; exact hlx)]; rfl⟩)
          (fun c3 c2 => ⟨by simp only [hdOf, c2, apartC_mem (c := 3) ops.toList 0 i oi hi c3 (by rw [Nat.zero_add]; exact hlx) (by rw [Nat.zero_add]; exact hbx)]; rfl, by simp only [hdOf, c3, apartC_mem (c := 2) ops.toList 0 x ox hx c2 (by rw [Nat.zero_add]; exact hbx) (by rw [Nat.zero_add]; exact hlx)]; rfl⟩)
          (alone_mem ops.toList 0 i oi hi (by omega) (by rw [Nat.zero_add]; exact hlx) (by rw [Nat.zero_add]; exact hbx)) (alone_mem ops.toList 0 x ox hx (by omega) (by rw [Nat.zero_add]; exact hbx) (by rw [Nat.zero_add]; exact hlx)) (K := fun s => regD P ρ ops D (p ++ q) s kk) h3
        rw [List.cons_append, regD, hi]
        simp only
        rw [← h4]
        congr 1
        funext oc
        rw [regD, hx]

/-- What is not yet listed. -/
def unl (n : Nat) (listed : Array Bool) : List Nat := (List.range n).filter fun k => !(listed.getD k true)

theorem anyD [LaidC P] {ρ : List (Entry R)} (hρ : ∀ e ∈ ρ, EntryOk P e) {ops : Array Oper} {D : List Nat} (F : Facts ops D) (hd : ∀ o ∈ ops.toList, ∀ d, o.dst = some d → nt.dn d) {kk : St → Option R} {r : R} {Q : Exit → Act → World → Prop}
    (hn : ∀ s' a' w', Good P nt w0 s' a' w' → kk s' = some r → Q .normal a' w') :
    ∀ (fuel : Nat) (listed : Array Bool) (s : St) (a : Act) (w : World), listed.size = ops.size → Closed ops (fun k => listed.getD k false = true) → Inv ops s (unl ops.size listed) → Good P nt w0 s a w →
      regD P ρ ops D (unl ops.size listed) s kk = some r → (unl ops.size listed).length = fuel → wpAny P .any ops Q fuel listed a w := by
  have tf : ∀ (listed : Array Bool) k, listed.getD k true = false → listed.getD k false = false := fun listed k h => by
    by_cases hk : k < listed.size
    · simp [Array.getD, hk] at h ⊢; exact h
    · simp [Array.getD, hk] at h
  -- the end
  have fin : ∀ {s a w}, Good P nt w0 s a w → regD P ρ ops D [] s kk = some r → Q .normal a w := fun {s a w} hg h => by
    obtain ⟨G, Rl⟩ := hg
    exact hn _ _ _ ⟨G, Rl.clear⟩ h
  -- the first of what is not listed is ready
  have first : ∀ (listed : Array Bool), listed.size = ops.size → Region.ready .any ops listed = [] → unl ops.size listed = [] := fun listed hsz h => by
    cases hU : unl ops.size listed with
    | nil => rfl
    | cons k rest =>
      have hsort : (unl ops.size listed).Pairwise (· < ·) := List.pairwise_lt_range.filter _
      have hk : k ∈ unl ops.size listed := by rw [hU]; exact List.mem_cons_self ..
      unfold unl at hk
      rw [List.mem_filter, List.mem_range] at hk
      have hko := Array.getElem?_eq_getElem hk.1
      have : k ∈ Region.ready .any ops listed := by
        rw [mem_ready]
        refine ⟨by simpa using hk.2, ops[k], hko, fun e he hb => ?_⟩
        rw [bind_any] at hb
        have hlt := F.low k _ hko e (by simpa using he) hb
        cases hl : listed.getD e.on false with
        | true => rfl
        | false =>
          have hes : e.on < listed.size := by rw [hsz]; omega
          have hm : e.on ∈ unl ops.size listed := by
            unfold unl
            rw [List.mem_filter, List.mem_range]
            refine ⟨by omega, ?_⟩
            simp [Array.getD, hes] at hl ⊢; exact hl
          rw [hU] at hm hsort
          rcases List.mem_cons.1 hm with h | h
          · omega
          · have := (List.pairwise_cons.1 hsort).1 _ h; omega
      rw [h] at this; cases this
  intro fuel
  induction fuel with
  | zero =>
    intro listed s a w hsz hcl hI hg h hlen
    have hU := List.eq_nil_of_length_eq_zero hlen
    rw [hU] at h
    refine ⟨?_, fin hg h⟩
    cases hr : Region.ready .any ops listed with
    | nil => rfl
    | cons i rest =>
      have hi : i ∈ Region.ready .any ops listed := by rw [hr]; exact List.mem_cons_self ..
      obtain ⟨h1, o, ho, -⟩ := mem_ready.1 hi
      have : i ∈ unl ops.size listed := by
        unfold unl
        rw [List.mem_filter, List.mem_range, h1]
        exact ⟨(Array.getElem?_eq_some_iff.1 ho).1, rfl⟩
      rw [hU] at this; cases this
  | succ fuel ih =>
    intro listed s a w hsz hcl hI hg h hlen
    refine ⟨fun hr => ?_, fun i hi => ?_⟩
    · rw [first listed hsz hr] at hlen; cases hlen
    · obtain ⟨h1, o, ho, hall⟩ := mem_ready.1 hi
      have hlt : i < ops.size := (Array.getElem?_eq_some_iff.1 ho).1
      have hdeps : ∀ e ∈ o.after.toList, bindB e = true → listed.getD e.on false = true := fun e he hb => hall e (by simpa using he) (by rw [bind_any]; exact hb)
      have hiU : i ∈ unl ops.size listed := by
        unfold unl
        rw [List.mem_filter, List.mem_range, h1]
        exact ⟨hlt, rfl⟩
      have hsort : (unl ops.size listed).Pairwise (· < ·) := List.pairwise_lt_range.filter _
      obtain ⟨p, q, hpq⟩ := List.append_of_mem hiU
      have hU' : unl ops.size (listed.setIfInBounds i true) = p ++ q := by
        have : unl ops.size (listed.setIfInBounds i true) = (unl ops.size listed).filter fun k => !(Nat.beq k i) := by
          unfold unl
          rw [List.filter_filter]
          apply List.filter_congr
          intro k _
          by_cases hk : k = i
          · subst hk
            rw [Nat.beq_refl]
            by_cases hb : k < listed.size
            · simp [Array.getD, hb]
            · simp [Array.getD, hb]
          · rw [getD_set_ne true (Ne.symm hk)]
            cases hb : Nat.beq k i with
            | false => simp
            | true => exact absurd (beq_eq hb) hk
        rw [this, hpq, List.filter_append, List.filter_cons]
        rw [hpq, List.pairwise_append] at hsort
        obtain ⟨-, s2, s3⟩ := hsort
        have keep : ∀ l : List Nat, (∀ k ∈ l, k ≠ i) → l.filter (fun k => !(Nat.beq k i)) = l := fun l hl => by
          rw [List.filter_eq_self]
          intro k hk
          cases hb : Nat.beq k i with
          | false => rfl
          | true => exact absurd (beq_eq hb) (hl k hk)
        rw [keep p (fun k hk => by have := s3 k hk i (by simp); omega), keep q (fun k hk => by have := (List.pairwise_cons.1 s2).1 k hk; omega), Nat.beq_refl]
        rfl
      have hU1 : ∀ x ∈ p, Nat.testBit (ngetL D i) x = false := fun x hx => by
        cases hb : Nat.testBit (ngetL D i) x with
        | false => rfl
        | true =>
          have := bit_listed F hcl i o x ho hdeps hb
          have hxU : x ∈ unl ops.size listed := by rw [hpq]; simp [hx]
          unfold unl at hxU
          rw [List.mem_filter] at hxU
          have := tf listed x (by simpa using hxU.2)
          simp_all
      rw [hpq] at h hI hsort
      have h2 := bubble hρ F p s hI hsort hU1 h
      rw [regD, show ops.toList[i]? = some o by rw [Array.getElem?_toList]; exact ho] at h2
      simp only at h2
      unfold wpOp
      simp only [ho]
      obtain ⟨G, Rl⟩ := hg
      have hmem : o ∈ ops.toList := by simpa using Array.mem_of_getElem? ho
      have hpw : ∀ k ∈ p ++ q, k ≠ i := fun k hk => by
        rw [List.pairwise_append] at hsort
        obtain ⟨-, s2, s3⟩ := hsort
        rcases List.mem_append.1 hk with hk | hk
        · have := s3 k hk i (by simp); omega
        · have := (List.pairwise_cons.1 s2).1 k hk; omega
      have hIi : Inv ops s (i :: (p ++ q)) := ⟨hI.1, fun k hk => hI.2 k (by
        rcases List.mem_cons.1 hk with h | h
        · simp [h]
        · rcases List.mem_append.1 h with h | h <;> simp [h])⟩
      refine outD_sound hρ Rl hd (hd o hmem) h2 fun oc a' w' hoc hg' hk => ?_
      refine ih _ (s.app o.dst oc) a' w' (by simpa using hsz) ?_ ?_ hg' (by rw [hU']; exact hk) ?_
      · intro j oj hoj hj e he hb
        by_cases hji : j = i
        · subst hji
          rw [ho] at hoj
          obtain rfl := Option.some.inj hoj
          exact getD_set_true (hdeps e he hb)
        · rw [getD_set_ne false (Ne.symm hji)] at hj
          exact getD_set_true (hcl j oj hoj hj e he hb)
      · rw [hU']
        refine Inv.app F hIi ho (fun h => hpw i h rfl) (fun k hk => ?_) hoc
        rcases List.mem_append.1 hk with hk | hk
        · exact hU1 k hk
        · cases hb : Nat.testBit (ngetL D i) k with
          | false => rfl
          | true =>
            have := bit_lt F i o k ho hb
            rw [List.pairwise_append] at hsort
            have := (List.pairwise_cons.1 hsort.2.1).1 k hk
            omega
      · rw [hU']
        rw [hpq] at hlen
        simp at hlen ⊢
        omega

theorem Rel.drew [LaidC P] (R : Rel P nt w0 G s a w) : Rel P nt w0 G s a { w with drawn := w.drawn + 1 } := by
  have m : Mo P G s.ob w G s.ob { w with drawn := w.drawn + 1 } := ⟨fun b h => ⟨h, rfl⟩, (Mo.refl (P := P) (G := G) (ob := s.ob) (w := { w with drawn := w.drawn + 1 })).ob⟩
  refine Rel.step R m (fun n => ?_) R.inj R.new rfl R.N R.hA ⟨R.below.os, R.below.tape, R.below.output, R.below.size, R.below.block⟩
  have h := R.ob n
  have mo : ∀ b, G.ok b → G.ok b ∧ ({ w with drawn := w.drawn + 1 } : World).heap[b]? = w.heap[b]? := fun b h => ⟨h, rfl⟩
  cases ho : s.ob n with
  | none => simp only [RelO]
  | fz e xs g => simp only [RelO]
  | dead => simp only [RelO]
  | box x =>
    rw [ho] at h
    simp only [RelO] at h ⊢
    obtain ⟨b, el, val, h1, h2, h3⟩ := h
    exact ⟨b, el, val, h1, h2, h3.mono m⟩
  | bd tb x =>
    rw [ho] at h
    simp only [RelO] at h ⊢
    obtain ⟨b, pv, val, h1, h2, h4p, h3⟩ := h
    exact ⟨b, pv, val, h1, h2, h4p, h3.mono m⟩
  | row e xs g =>
    rw [ho] at h
    simp only [RelO] at h ⊢
    obtain ⟨h0, cl, h1, h2⟩ := h
    exact ⟨h0, cl, h1, h2.mono mo⟩
  | arr e xs =>
    rw [ho] at h
    simp only [RelO] at h ⊢
    obtain ⟨h0, b, el, cs, h1, h2, h3, h4⟩ := h
    exact ⟨h0, b, el, cs, h1, h2, h3, h4.mono mo⟩
  | mp k e l =>
    rw [ho] at h
    simp only [RelO] at h ⊢
    exact h

theorem drawC_sound [LaidC P] {ρ : List (Entry R)} (hρ : ∀ e ∈ ρ, EntryOk P e) {ops : Array Oper} (hd : ∀ o ∈ ops.toList, ∀ d, o.dst = some d → nt.dn d) {kk : St → Option R} {r : R} {Q : Exit → Act → World → Prop}
    (hn : ∀ s' a' w', Good P nt w0 s' a' w' → kk s' = some r → Q .normal a' w') (hg : Good P nt w0 s a w) (h : drawC P ρ ops s kk = some r) {id : Nat} : (Code.region id ops true).wp P Q a w := by
  unfold drawC at h
  split at h
  · rename_i hc
    rw [Bool.and_eq_true] at hc
    obtain ⟨G, Rl⟩ := hg
    refine wp_region_any hc.1 ?_
    have hU : unl ops.size (Array.replicate ops.size false) = List.range ops.size := by
      unfold unl
      rw [List.filter_eq_self]
      intro k hk
      simp [List.mem_range.1 hk]
    refine anyD hρ (facts hc.2) hd hn ops.size (Array.replicate ops.size false) s.clear a _ (by simp) (fun i o ho hl => ?_) ⟨rfl, fun k hk o ho d hd j i b v hg => by cases hg⟩ ⟨G, Rl.clear.drew⟩ (by rw [hU]; exact h) (by rw [hU]; simp)
    by_cases hi : i < ops.size
    · simp [hi] at hl
    · simp [hi] at hl
  · cases h
end Go.Pv
