/- edit: the document's functions, told plainly. ; edit: the document's Origins, told plainly. ; edit: what lies outside of an image. ; edit: the document's Size and Check, by contract. -/
import Derived.Test.YtemlbjpefomboaaE2
import Derived.Test.YtemlbjpefomboaaAc
namespace Go.Proofs.Ytemlbjpefomboaa
open Go.RowKit Go.Shelf Go.Proofs.YtemlbjpefomboaaW.PrintWords Go.Proofs.YtemlbjpefomboaaW.PrintLast Go.Proofs.YtemlbjpefomboaaW.PrintMore Go.Proofs.Ytemlbjpefomboaa.Pr
set_option linter.unusedVariables false
set_option linter.unusedSimpArgs false
def rdx (old : Int) : List S80 → Int → Bool
  | [], _ => true
  | s :: l, a => if 0 < s.f0 ∧ (a < 0 ∨ old < a + s.f0) then false else rdx old l (a + s.f0 + s.f2)
theorem rds_rdx (old : Int) : ∀ (st : List S80) (a : Int) (B : Int), st.all may = true → -B ≤ a → a ≤ B → B + 33554432 * (st.length + 1) ≤ 9223372036854775807 → rds old st a = rdx old st a
  | [], _, _, _, _, _, _ => rfl
  | s :: l, a, B, h, h1, h2, h3 => by
    simp only [List.all_cons, Bool.and_eq_true] at h
    have hm := (may_iff s).1 h.1
    simp only [List.length_cons] at h3
    rw [rds, rdx, w64 a (by omega), w64 (a + s.f0) (by omega), rds_rdx old l _ (B + 33554432) h.2 (by omega) (by omega) (by omega)]
theorem itself_mono (st : List S80) (d x : List Int) {k k' : Nat} (h : k ≤ k') {r : Int × Int} (hk : edit_itself.f k st d x = some r) : edit_itself.f k' st d x = some r := at_rounds (g := fun k => edit_itself.f k st d x) (fun k => edit_itself.mono st d x k) h hk
theorem ited_all {st : List S80} {d x : List Int} (h : (ited st d x).2 = 0) : st.all may = true ∧ sA st + sC st ≤ 16777216 ∧ sA st = d.length ∧ sC st = x.length ∧ (ited st d x).1 = sA st + sC st := by
  unfold ited at h ⊢
  by_cases h1 : st.all may = true
  · rw [if_pos h1] at h ⊢
    by_cases h2 : sA st + sC st ≤ 16777216 ∧ sA st = d.length ∧ sC st = x.length
    · rw [if_pos h2]
      exact ⟨h1, h2.1, h2.2.1, h2.2.2, rfl⟩
    · rw [if_neg h2] at h; cases h
  · rw [if_neg h1] at h; cases h
theorem rstep_f (s : S80) : sapperref16_StepMay.f s.f0 s.f1 s.f2 = some (may s) := by
  unfold sapperref16_StepMay.f
  have hm := may_iff s
  cases h : may s with
  | true =>
    have := hm.1 h
    simp [this]
  | false =>
    have hn : ¬ (0 ≤ s.f0 ∧ s.f0 ≤ 16777216 ∧ 0 ≤ s.f1 ∧ s.f1 ≤ 16777216 ∧ -16777216 ≤ s.f2 ∧ s.f2 ≤ 16777216) := fun h' => by rw [hm.2 h'] at h; cases h
    by_cases h0 : 0 ≤ s.f0 <;> by_cases h1 : s.f0 ≤ 16777216 <;> by_cases h2 : 0 ≤ s.f1 <;> by_cases h3 : s.f1 ≤ 16777216 <;> by_cases h4 : -16777216 ≤ s.f2 <;> by_cases h5 : s.f2 ≤ 16777216 <;> simp [h0, h1, h2, h3, h4, h5]
    exact hn ⟨h0, h1, h2, h3, h4, h5⟩
theorem ritself_l0 (st : List S80) (d x : List Int) (hf : st.length ≤ 1048576) : ∀ (j i : Nat) (a c : Int), i + j = st.length → 0 ≤ a → a ≤ 16777216 * i → 0 ≤ c → c ≤ 16777216 * i →
    sapperref16_Itself.l0 (j + 1) a c i st d x = some (if (st.drop i).all may = true then (if a + c + (sA (st.drop i) + sC (st.drop i)) ≤ 16777216 ∧ a + sA (st.drop i) = d.length ∧ c + sC (st.drop i) = x.length then 0 else 162) else 160)
  | 0, i, a, c, hi, h1, h2, h3, h4 => by
    obtain rfl : i = st.length := by omega
    rw [sapperref16_Itself.l0, if_neg (by omega), List.drop_length, w64 (a + c) (by omega)]
    simp only [sA, sC, List.all_nil, if_true, Int.add_zero]
    by_cases g1 : a > 16777216
    · rw [if_pos g1, if_neg (by omega)]
    · rw [if_neg g1]
      by_cases g2 : c > 16777216
      · rw [if_pos g2, if_neg (by omega)]
      · rw [if_neg g2]
        by_cases g3 : a + c > 16777216
        · rw [if_pos g3, if_neg (by omega)]
        · rw [if_neg g3]
          by_cases g4 : a = d.length
          · rw [if_pos g4]
            by_cases g5 : c = x.length
            · rw [if_pos g5, if_pos ⟨by omega, g4, g5⟩]
            · rw [if_neg g5, if_neg (fun h => g5 h.2.2)]
          · rw [if_neg g4, if_neg (fun h => g4 h.2.1)]
  | j + 1, i, a, c, hi, h1, h2, h3, h4 => by
    have hlt : i < st.length := by omega
    have hd := drop_rd st i hlt
    rw [sapperref16_Itself.l0, if_pos (by omega), if_pos (by omega), rstep_f, Option.bind_some]
    have eA : sA (st.drop i) = (rd_T80 st i).f0 + sA (st.drop (i + 1)) := by rw [hd]; rfl
    have eC : sC (st.drop i) = (rd_T80 st i).f1 + sC (st.drop (i + 1)) := by rw [hd]; rfl
    have eL : (st.drop i).all may = (may (rd_T80 st i) && (st.drop (i + 1)).all may) := by rw [hd]; rfl
    by_cases hm : may (rd_T80 st i) = true
    · have hmm := (may_iff _).1 hm
      rw [if_pos hm, w64 (a + _) (by omega), w64 (c + _) (by omega), w64 ((i : Int) + 1) (by omega), show ((i : Int) + 1) = ((i + 1 : Nat) : Int) by omega, ritself_l0 st d x hf j (i + 1) _ _ (by omega) (by omega) (by omega) (by omega) (by omega), eL, hm, Bool.true_and]
      have e1 : a + (rd_T80 st i).f0 + (c + (rd_T80 st i).f1) + (sA (st.drop (i + 1)) + sC (st.drop (i + 1))) = a + c + (sA (st.drop i) + sC (st.drop i)) := by omega
      have e2 : a + (rd_T80 st i).f0 + sA (st.drop (i + 1)) = a + sA (st.drop i) := by omega
      have e3 : c + (rd_T80 st i).f1 + sC (st.drop (i + 1)) = c + sC (st.drop i) := by omega
      rw [e1, e2, e3]
    · rw [if_neg hm, eL, if_neg]
      intro h
      rw [Bool.and_eq_true] at h
      exact hm h.1
theorem ritself_f (st : List S80) (d x : List Int) (hf : st.length ≤ 1048576) : ∃ k, sapperref16_Itself.f k st d x = some (ited st d x).2 := by
  refine ⟨st.length + 1, ?_⟩
  have := ritself_l0 st d x hf st.length 0 0 0 (by omega) (by omega) (by omega) (by omega) (by omega)
  simp only [List.drop_zero, Int.zero_add] at this
  unfold sapperref16_Itself.f ited
  rw [show ((0 : Nat) : Int) = 0 from rfl] at this
  rw [this]
  by_cases h : st.all may = true
  · rw [if_pos h, if_pos h]
    by_cases h2 : sA st + sC st ≤ 16777216 ∧ sA st = d.length ∧ sC st = x.length
    · rw [if_pos h2, if_pos h2]
    · rw [if_neg h2, if_neg h2]
  · rw [if_neg h, if_neg h]
def outB (n : Int) (o : S94) : Bool := o.f0 && (decide (o.f1 < 0) || decide (n ≤ o.f1))
theorem outside_l0 (L : List S94) (n : Int) (hf : fits L) : ∀ (j i : Nat), i + j = L.length → sapperref16_outside.l0 (j + 1) L n i = some ((L.drop i).any (outB n))
  | 0, i, hi => by
    obtain rfl : i = L.length := by omega
    rw [sapperref16_outside.l0, if_neg (by omega), List.drop_length]
    rfl
  | j + 1, i, hi => by
    have hlt : i < L.length := by omega
    have hf' := hf
    unfold fits at hf
    have hd : L.drop i = rd_T94 L i :: L.drop (i + 1) := by
      rw [List.drop_eq_getElem_cons hlt]
      congr 1
      simp [rd_T94, List.getD_eq_getElem?_getD, List.getElem?_eq_getElem hlt]
    rw [sapperref16_outside.l0, if_pos (by omega), if_pos (by omega), hd, List.any_cons, w64 ((i : Int) + 1) (by omega), show ((i : Int) + 1) = ((i + 1 : Nat) : Int) by omega, outside_l0 L n hf' j (i + 1) (by omega)]
    unfold outB
    cases h0 : (rd_T94 L i).f0 with
    | false => simp
    | true =>
      by_cases h1 : (rd_T94 L i).f1 < 0
      · simp [h1]
      · by_cases h2 : (rd_T94 L i).f1 ≥ n
        · simp [h1, h2]
        · have h2' : ¬ n ≤ (rd_T94 L i).f1 := h2
          simp [h1, h2']
theorem outside_f (L : List S94) (n : Int) (hf : fits L) : ∃ k, sapperref16_outside.f k L n = some (L.any (outB n)) :=
  ⟨L.length + 1, by have := outside_l0 L n hf L.length 0 (by omega); simpa [sapperref16_outside.f] using this⟩
end Go.Proofs.Ytemlbjpefomboaa
namespace Go.Proofs.Ytemlbjpefomboaa
open Go.RowKit Go.Shelf Go.Proofs.YtemlbjpefomboaaW.PrintWords Go.Proofs.YtemlbjpefomboaaW.PrintLast Go.Proofs.YtemlbjpefomboaaW.PrintMore Go.Proofs.Ytemlbjpefomboaa.Pr
set_option linter.unusedVariables false
set_option linter.unusedSimpArgs false
theorem drop_rdI (d : List Int) (u : Nat) (h : u < d.length) : d.drop u = rd d u :: d.drop (u + 1) := by
  rw [List.drop_eq_getElem_cons h]
  congr 1
  simp [rd, List.getD_eq_getElem?_getD, List.getElem?_eq_getElem h]
theorem o_l2 {st : List S80} {d x : List Int} (hf : st.length ≤ 9223372036854775806) (hdx : d.length + x.length ≤ 16777216) {i : Nat} (hi : i < st.length) (hb1 : (rd_T80 st i).f1 ≤ 16777216) (IH : ∀ (acc : List S94) (a : Int) (u v : Nat), u ≤ d.length → v ≤ x.length → acc.length = u + v → sA (st.drop (i + 1)) + u = d.length → sC (st.drop (i + 1)) + v = x.length →
      ∃ k, sapperref16_Origins.l0 k acc (wrap64 a) u v ((i + 1 : Nat) : Int) st d x = some (acc ++ og (st.drop (i + 1)) (d.drop u) (x.drop v) a)) (hn : 0 ≤ sC (st.drop (i + 1))) :
    ∀ (m q : Nat) (acc : List S94) (a : Int) (u v : Nat), ((q + m : Nat) : Int) = (rd_T80 st i).f1 → u ≤ d.length → v ≤ x.length → acc.length = u + v → sA (st.drop (i + 1)) + u = d.length → m + sC (st.drop (i + 1)) + v = x.length →
      ∃ k, sapperref16_Origins.l2 k acc (wrap64 a) u v i q st d x = some (acc ++ ogr 0 m (rd_T80 st i).f2 (st.drop (i + 1)) (d.drop u) (x.drop v) a)
  | 0, q, acc, a, u, v, hq, hu, hv, hl, hA, hC => by
    obtain ⟨k, hk⟩ := IH acc (a + (rd_T80 st i).f2) u v hu hv hl hA (by omega)
    refine ⟨k + 1, ?_⟩
    rw [sapperref16_Origins.l2, if_pos (by omega), if_pos (by omega), if_neg (by omega), w64_add, w64 ((i : Int) + 1) (by omega), show ((i : Int) + 1) = ((i + 1 : Nat) : Int) by omega, hk, ogr_end]
  | m + 1, q, acc, a, u, v, hq, hu, hv, hl, hA, hC => by
    have hvl : v < x.length := by omega
    obtain ⟨k, hk⟩ := o_l2 hf hdx hi hb1 IH hn m (q + 1) (acc ++ [⟨false, 0, rd x v⟩]) a u (v + 1) (by omega) hu hvl (by simp; omega) hA (by omega)
    refine ⟨k + 1, ?_⟩
    rw [sapperref16_Origins.l2, if_pos (by omega), if_pos (by omega), if_pos (by omega), if_pos (by omega), if_pos (by omega), if_pos (by omega), w64 ((v : Int) + 1) (by omega), w64 ((q : Int) + 1) (by omega), show ((v : Int) + 1) = ((v + 1 : Nat) : Int) by omega, show ((q : Int) + 1) = ((q + 1 : Nat) : Int) by omega, hk,
      drop_rdI x v hvl, ogr_copy, List.append_assoc, List.singleton_append]
theorem o_l1 {st : List S80} {d x : List Int} (hf : st.length ≤ 9223372036854775806) (hdx : d.length + x.length ≤ 16777216) {i : Nat} (hi : i < st.length) (hb0 : (rd_T80 st i).f0 ≤ 16777216) (hb1 : (rd_T80 st i).f1 ≤ 16777216) (IH : ∀ (acc : List S94) (a : Int) (u v : Nat), u ≤ d.length → v ≤ x.length → acc.length = u + v → sA (st.drop (i + 1)) + u = d.length → sC (st.drop (i + 1)) + v = x.length →
      ∃ k, sapperref16_Origins.l0 k acc (wrap64 a) u v ((i + 1 : Nat) : Int) st d x = some (acc ++ og (st.drop (i + 1)) (d.drop u) (x.drop v) a)) (hn : 0 ≤ sC (st.drop (i + 1))) (hnA : 0 ≤ sA (st.drop (i + 1))) (m : Nat) (hm : (m : Int) = (rd_T80 st i).f1) :
    ∀ (n q : Nat) (acc : List S94) (a : Int) (u v : Nat), ((q + n : Nat) : Int) = (rd_T80 st i).f0 → u ≤ d.length → v ≤ x.length → acc.length = u + v → n + sA (st.drop (i + 1)) + u = d.length → m + sC (st.drop (i + 1)) + v = x.length →
      ∃ k, sapperref16_Origins.l1 k acc (wrap64 a) u v i q st d x = some (acc ++ ogr n m (rd_T80 st i).f2 (st.drop (i + 1)) (d.drop u) (x.drop v) a)
  | 0, q, acc, a, u, v, hq, hu, hv, hl, hA, hC => by
    obtain ⟨k, hk⟩ := o_l2 hf hdx hi hb1 IH hn m 0 acc a u v (by omega) hu hv hl (by omega) hC
    refine ⟨k + 1, ?_⟩
    rw [sapperref16_Origins.l1, if_pos (by omega), if_pos (by omega), if_neg (by omega)]
    exact hk
  | n + 1, q, acc, a, u, v, hq, hu, hv, hl, hA, hC => by
    have hul : u < d.length := by omega
    obtain ⟨k, hk⟩ := o_l1 hf hdx hi hb0 hb1 IH hn hnA m hm n (q + 1) (acc ++ [⟨true, wrap64 a, rd d u⟩]) (a + 1) (u + 1) v (by omega) hul hv (by simp; omega) (by omega) hC
    refine ⟨k + 1, ?_⟩
    rw [sapperref16_Origins.l1, if_pos (by omega), if_pos (by omega), if_pos (by omega), if_pos (by omega), if_pos (by omega), if_pos (by omega), w64_add, w64 ((u : Int) + 1) (by omega), w64 ((q : Int) + 1) (by omega), show ((u : Int) + 1) = ((u + 1 : Nat) : Int) by omega, show ((q : Int) + 1) = ((q + 1 : Nat) : Int) by omega, hk,
      drop_rdI d u hul, ogr_add, List.append_assoc, List.singleton_append]
theorem o_l0 {st : List S80} {d x : List Int} (hst : st.all may = true) (hf : st.length ≤ 9223372036854775806) (hdx : d.length + x.length ≤ 16777216) : ∀ (j i : Nat) (acc : List S94) (a : Int) (u v : Nat), i + j = st.length → u ≤ d.length → v ≤ x.length → acc.length = u + v → sA (st.drop i) + u = d.length → sC (st.drop i) + v = x.length →
    ∃ k, sapperref16_Origins.l0 k acc (wrap64 a) u v (i : Int) st d x = some (acc ++ og (st.drop i) (d.drop u) (x.drop v) a)
  | 0, i, acc, a, u, v, hi, _, _, _, _, _ => by
    obtain rfl : i = st.length := by omega
    refine ⟨1, ?_⟩
    rw [sapperref16_Origins.l0, if_neg (by omega), List.drop_length, og, List.append_nil]
  | j + 1, i, acc, a, u, v, hi, hu, hv, hl, hA, hC => by
    have hlt : i < st.length := by omega
    have hd := drop_rd st i hlt
    have hall := all_drop hst i
    rw [hd, List.all_cons, Bool.and_eq_true] at hall
    have hm := (may_iff _).1 hall.1
    have eA : sA (st.drop i) = (rd_T80 st i).f0 + sA (st.drop (i + 1)) := by rw [hd]; rfl
    have eC : sC (st.drop i) = (rd_T80 st i).f1 + sC (st.drop (i + 1)) := by rw [hd]; rfl
    have hnA := sA_nn _ hall.2
    have hnC := sC_nn _ hall.2
    obtain ⟨k, hk⟩ := o_l1 hf hdx hlt hm.2.1 hm.2.2.2.1 (fun acc a u v h1 h2 h3 h4 h5 => o_l0 hst hf hdx j (i + 1) acc a u v (by omega) h1 h2 h3 h4 h5) hnC hnA (rd_T80 st i).f1.toNat (by omega) (rd_T80 st i).f0.toNat 0 acc a u v (by omega) hu hv hl (by omega) (by omega)
    refine ⟨k + 1, ?_⟩
    rw [sapperref16_Origins.l0, if_pos (by omega), hd, og_cons]
    exact hk
theorem origins_f {st : List S80} {d x : List Int} (h : (ited st d x).2 = 0) (hf : st.length ≤ 1048576) : ∃ k, sapperref16_Origins.f k st d x = some (og st d x 0) := by
  obtain ⟨hall, hs, hA, hC, _⟩ : st.all may = true ∧ sA st + sC st ≤ 16777216 ∧ sA st = d.length ∧ sC st = x.length ∧ True := by
    unfold ited at h
    by_cases h1 : st.all may = true
    · rw [if_pos h1] at h
      by_cases h2 : sA st + sC st ≤ 16777216 ∧ sA st = d.length ∧ sC st = x.length
      · exact ⟨h1, h2.1, h2.2.1, h2.2.2, trivial⟩
      · rw [if_neg h2] at h; cases h
    · rw [if_neg h1] at h; cases h
  obtain ⟨k, hk⟩ := o_l0 (st := st) (d := d) (x := x) hall (by omega) (by omega) st.length 0 [] 0 0 0 (by omega) (by omega) (by omega) rfl (by simpa using hA) (by simpa using hC)
  refine ⟨k, ?_⟩
  simpa [sapperref16_Origins.f, w64] using hk
end Go.Proofs.Ytemlbjpefomboaa
namespace Go.Proofs.Ytemlbjpefomboaa
open Go.RowKit Go.Shelf Go.Proofs.YtemlbjpefomboaaW.PrintWords Go.Proofs.YtemlbjpefomboaaW.PrintLast Go.Proofs.YtemlbjpefomboaaW.PrintMore Go.Proofs.Ytemlbjpefomboaa.Pr
set_option linter.unusedVariables false
set_option linter.unusedSimpArgs false
theorem any_run (old a : Int) (d : List Int) (n : Nat) (h : -4611686018427387904 ≤ a ∧ a + n ≤ 4611686018427387904) :
    ((List.range n).map (fun (i : Nat) => (⟨true, wrap64 (a + (i : Int)), d.getD i 0⟩ : S94))).any (outB old) = decide (0 < n ∧ (a < 0 ∨ old < a + n)) := by
  rw [Bool.eq_iff_iff, List.any_eq_true, decide_eq_true_iff]
  constructor
  · rintro ⟨o, ho, hb⟩
    obtain ⟨i, hi, rfl⟩ := List.mem_map.1 ho
    have hin := List.mem_range.1 hi
    simp only [outB, Bool.true_and, Bool.or_eq_true, decide_eq_true_iff, w64 (a + (i : Int)) (by omega)] at hb
    exact ⟨by omega, by omega⟩
  · rintro ⟨h0, h1⟩
    rcases h1 with h1 | h1
    · refine ⟨_, List.mem_map.2 ⟨0, List.mem_range.2 h0, rfl⟩, ?_⟩
      simp only [outB, Bool.true_and, Bool.or_eq_true, decide_eq_true_iff]
      rw [w64 _ (by omega)]
      left
      omega
    · refine ⟨_, List.mem_map.2 ⟨n - 1, List.mem_range.2 (by omega), rfl⟩, ?_⟩
      simp only [outB, Bool.true_and, Bool.or_eq_true, decide_eq_true_iff]
      rw [w64 _ (by omega)]
      right
      omega
theorem out_rdx (old : Int) : ∀ (st : List S80) (d x : List Int) (a B : Int), st.all may = true → -B ≤ a → a ≤ B → B + 33554432 * (st.length + 1) ≤ 4611686018427387904 → (og st d x a).any (outB old) = !(rdx old st a)
  | [], _, _, _, _, _, _, _, _ => rfl
  | s :: l, d, x, a, B, h, h1, h2, h3 => by
    simp only [List.all_cons, Bool.and_eq_true] at h
    have hm := (may_iff s).1 h.1
    simp only [List.length_cons] at h3
    rw [og, List.any_append, List.any_append, any_run old a d s.f0.toNat (by omega), out_rdx old l _ _ _ (B + 33554432) h.2 (by omega) (by omega) (by omega), rdx]
    have hc : ((x.take s.f1.toNat).map (fun (b : Int) => (⟨false, 0, b⟩ : S94))).any (outB old) = false := by
      rw [List.any_eq_false]
      intro o ho
      obtain ⟨b, _, rfl⟩ := List.mem_map.1 ho
      simp [outB]
    rw [hc, Bool.false_or]
    have e1 : (s.f0.toNat : Int) = s.f0 := by omega
    rw [e1]
    by_cases hq : 0 < s.f0 ∧ (a < 0 ∨ old < a + s.f0)
    · rw [if_pos hq, decide_eq_true (by omega)]
      rfl
    · rw [if_neg hq, decide_eq_false (by omega)]
      rfl
theorem out_rds {st : List S80} {d x : List Int} (hst : st.all may = true) (hf : st.length ≤ 1048576) (old : Int) : (og st d x 0).any (outB old) = !(rds old st 0) := by
  rw [out_rdx old st d x 0 0 hst (by omega) (by omega) (by omega), rds_rdx old st 0 0 hst (by omega) (by omega) (by omega)]
theorem inn_of {st : List S80} {d x : List Int} (hst : st.all may = true) (hf : st.length ≤ 1048576) {old : Int} (h : rds old st 0 = true) : Inn old (og st d x 0) := by
  have := out_rds (d := d) (x := x) hst hf old
  rw [h] at this
  intro o ho h0
  have hb := List.any_eq_false.1 this o ho
  simp only [outB, h0, Bool.true_and, Bool.or_eq_true, decide_eq_true_iff, not_or] at hb
  omega
end Go.Proofs.Ytemlbjpefomboaa
namespace Go.Proofs.Ytemlbjpefomboaa
open Go.RowKit Go.Shelf Go.Proofs.YtemlbjpefomboaaW.PrintWords Go.Proofs.YtemlbjpefomboaaW.PrintLast Go.Proofs.YtemlbjpefomboaaW.PrintMore Go.Proofs.Ytemlbjpefomboaa.Pr
set_option linter.unusedVariables false
set_option linter.unusedSimpArgs false
theorem ritself_mono (st : List S80) (d x : List Int) {k k' : Nat} (h : k ≤ k') {r : Int} (hk : sapperref16_Itself.f k st d x = some r) : sapperref16_Itself.f k' st d x = some r := at_rounds (g := fun k => sapperref16_Itself.f k st d x) (fun k => sapperref16_Itself.mono st d x k) h hk
theorem ited_size {st : List S80} {d x : List Int} (h : (ited st d x).2 = 0) : (ited st d x).1 = (d.length : Int) + x.length ∧ (d.length : Int) + x.length ≤ 16777216 := by
  obtain ⟨_, hs, hA, hC, hn⟩ := ited_all h
  omega
theorem ited_bad {st : List S80} {d x : List Int} (h : (ited st d x).2 ≠ 0) : (ited st d x).1 = 0 := by
  unfold ited at h ⊢
  by_cases h1 : st.all may = true
  · rw [if_pos h1] at h ⊢
    by_cases h2 : sA st + sC st ≤ 16777216 ∧ sA st = d.length ∧ sC st = x.length
    · rw [if_pos h2] at h; exact absurd rfl h
    · rw [if_neg h2]
  · rw [if_neg h1]
theorem inn_applied {old : List Int} {st : List S80} {d x : List Int} (hf : st.length ≤ 1048576) (h : appliedE old st d x = 0) : Inn old.length (og st d x 0) := by
  unfold appliedE at h
  by_cases h1 : 16777216 < (old.length : Int)
  · rw [if_pos h1] at h; cases h
  · rw [if_neg h1] at h
    by_cases h2 : (ited st d x).2 ≠ 0
    · rw [if_pos h2] at h; exact absurd h h2
    · rw [if_neg h2] at h
      have h3 := Decidable.not_not.1 h2
      cases hr : rds old.length st 0 with
      | false => rw [hr] at h; cases h
      | true => exact inn_of (ited_all h3).1 hf hr
end Go.Proofs.Ytemlbjpefomboaa
