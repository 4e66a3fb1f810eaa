/- edit: the document's Origins, told plainly. -/
import Derived.Test.YtemlbjpefomboaaRs
namespace Go.Proofs.Ytemlbjpefomboaa
open Go.RowKit Go.Shelf Go.Proofs.YtemlbjpefomboaaW.PrintWords Go.Proofs.YtemlbjpefomboaaW.PrintLast Go.Proofs.YtemlbjpefomboaaW.PrintMore Go.Proofs.Ytemlbjpefomboaa.Pr
set_option linter.unusedVariables false
set_option linter.unusedSimpArgs false
theorem drop_rdI (d : List Int) (u : Nat) (h : u < d.length) : d.drop u = rd d u :: d.drop (u + 1) := by
  rw [List.drop_eq_getElem_cons h]
  congr 1
  simp [rd, List.getD_eq_getElem?_getD, List.getElem?_eq_getElem h]
theorem o_l2 {st : List S80} {d x : List Int} (hf : st.length ≤ 9223372036854775806) (hdx : d.length + x.length ≤ 16777216) {i : Nat} (hi : i < st.length) (hb1 : (rd_T80 st i).f1 ≤ 16777216) (IH : ∀ (acc : List S94) (a : Int) (u v : Nat), u ≤ d.length → v ≤ x.length → acc.length = u + v → sA (st.drop (i + 1)) + u = d.length → sC (st.drop (i + 1)) + v = x.length →
      ∃ k, sapperref16_Origins.l0 k acc (wrap64 a) u v ((i + 1 : Nat) : Int) st d x = some (acc ++ og (st.drop (i + 1)) (d.drop u) (x.drop v) a)) (hn : 0 ≤ sC (st.drop (i + 1))) :
    ∀ (m q : Nat) (acc : List S94) (a : Int) (u v : Nat), ((q + m : Nat) : Int) = (rd_T80 st i).f1 → u ≤ d.length → v ≤ x.length → acc.length = u + v → sA (st.drop (i + 1)) + u = d.length → m + sC (st.drop (i + 1)) + v = x.length →
      ∃ k, sapperref16_Origins.l2 k acc (wrap64 a) u v i q st d x = some (acc ++ ogr 0 m (rd_T80 st i).f2 (st.drop (i + 1)) (d.drop u) (x.drop v) a)
  | 0, q, acc, a, u, v, hq, hu, hv, hl, hA, hC => by
    obtain ⟨k, hk⟩ := IH acc (a + (rd_T80 st i).f2) u v hu hv hl hA (by omega)
    refine ⟨k + 1, ?_⟩
    rw [sapperref16_Origins.l2, if_pos (by omega), if_pos (by omega), if_neg (by omega), w64_add, w64 ((i : Int) + 1) (by omega), show ((i : Int) + 1) = ((i + 1 : Nat) : Int) by omega, hk, ogr_end]
  | m + 1, q, acc, a, u, v, hq, hu, hv, hl, hA, hC => by
    have hvl : v < x.length := by omega
    obtain ⟨k, hk⟩ := o_l2 hf hdx hi hb1 IH hn m (q + 1) (acc ++ [⟨false, 0, rd x v⟩]) a u (v + 1) (by omega) hu hvl (by simp; omega) hA (by omega)
    refine ⟨k + 1, ?_⟩
    rw [sapperref16_Origins.l2, if_pos (by omega), if_pos (by omega), if_pos (by omega), if_pos (by omega), if_pos (by omega), if_pos (by omega), w64 ((v : Int) + 1) (by omega), w64 ((q : Int) + 1) (by omega), show ((v : Int) + 1) = ((v + 1 : Nat) : Int) by omega, show ((q : Int) + 1) = ((q + 1 : Nat) : Int) by omega, hk,
      drop_rdI x v hvl, ogr_copy, List.append_assoc, List.singleton_append]
theorem o_l1 {st : List S80} {d x : List Int} (hf : st.length ≤ 9223372036854775806) (hdx : d.length + x.length ≤ 16777216) {i : Nat} (hi : i < st.length) (hb0 : (rd_T80 st i).f0 ≤ 16777216) (hb1 : (rd_T80 st i).f1 ≤ 16777216) (IH : ∀ (acc : List S94) (a : Int) (u v : Nat), u ≤ d.length → v ≤ x.length → acc.length = u + v → sA (st.drop (i + 1)) + u = d.length → sC (st.drop (i + 1)) + v = x.length →
      ∃ k, sapperref16_Origins.l0 k acc (wrap64 a) u v ((i + 1 : Nat) : Int) st d x = some (acc ++ og (st.drop (i + 1)) (d.drop u) (x.drop v) a)) (hn : 0 ≤ sC (st.drop (i + 1))) (hnA : 0 ≤ sA (st.drop (i + 1))) (m : Nat) (hm : (m : Int) = (rd_T80 st i).f1) :
    ∀ (n q : Nat) (acc : List S94) (a : Int) (u v : Nat), ((q + n : Nat) : Int) = (rd_T80 st i).f0 → u ≤ d.length → v ≤ x.length → acc.length = u + v → n + sA (st.drop (i + 1)) + u = d.length → m + sC (st.drop (i + 1)) + v = x.length →
      ∃ k, sapperref16_Origins.l1 k acc (wrap64 a) u v i q st d x = some (acc ++ ogr n m (rd_T80 st i).f2 (st.drop (i + 1)) (d.drop u) (x.drop v) a)
  | 0, q, acc, a, u, v, hq, hu, hv, hl, hA, hC => by
    obtain ⟨k, hk⟩ := o_l2 hf hdx hi hb1 IH hn m 0 acc a u v (by omega) hu hv hl (by omega) hC
    refine ⟨k + 1, ?_⟩
    rw [sapperref16_Origins.l1, if_pos (by omega), if_pos (by omega), if_neg (by omega)]
    exact hk
  | n + 1, q, acc, a, u, v, hq, hu, hv, hl, hA, hC => by
    have hul : u < d.length := by omega
    obtain ⟨k, hk⟩ := o_l1 hf hdx hi hb0 hb1 IH hn hnA m hm n (q + 1) (acc ++ [⟨true, wrap64 a, rd d u⟩]) (a + 1) (u + 1) v (by omega) hul hv (by simp; omega) (by omega) hC
    refine ⟨k + 1, ?_⟩
    rw [sapperref16_Origins.l1, if_pos (by omega), if_pos (by omega), if_pos (by omega), if_pos (by omega), if_pos (by omega), if_pos (by omega), w64_add, w64 ((u : Int) + 1) (by omega), w64 ((q : Int) + 1) (by omega), show ((u : Int) + 1) = ((u + 1 : Nat) : Int) by omega, show ((q : Int) + 1) = ((q + 1 : Nat) : Int) by omega, hk,
      drop_rdI d u hul, ogr_add, List.append_assoc, List.singleton_append]
theorem o_l0 {st : List S80} {d x : List Int} (hst : st.all may = true) (hf : st.length ≤ 9223372036854775806) (hdx : d.length + x.length ≤ 16777216) : ∀ (j i : Nat) (acc : List S94) (a : Int) (u v : Nat), i + j = st.length → u ≤ d.length → v ≤ x.length → acc.length = u + v → sA (st.drop i) + u = d.length → sC (st.drop i) + v = x.length →
    ∃ k, sapperref16_Origins.l0 k acc (wrap64 a) u v (i : Int) st d x = some (acc ++ og (st.drop i) (d.drop u) (x.drop v) a)
  | 0, i, acc, a, u, v, hi, _, _, _, _, _ => by
    obtain rfl : i = st.length := by omega
    refine ⟨1, ?_⟩
    rw [sapperref16_Origins.l0, if_neg (by omega), List.drop_length, og, List.append_nil]
  | j + 1, i, acc, a, u, v, hi, hu, hv, hl, hA, hC => by
    have hlt : i < st.length := by omega
    have hd := drop_rd st i hlt
    have hall := all_drop hst i
    rw [hd, List.all_cons, Bool.and_eq_true] at hall
    have hm := (may_iff _).1 hall.1
    have eA : sA (st.drop i) = (rd_T80 st i).f0 + sA (st.drop (i + 1)) := by rw [hd]; rfl
    have eC : sC (st.drop i) = (rd_T80 st i).f1 + sC (st.drop (i + 1)) := by rw [hd]; rfl
    have hnA := sA_nn _ hall.2
    have hnC := sC_nn _ hall.2
    obtain ⟨k, hk⟩ := o_l1 hf hdx hlt hm.2.1 hm.2.2.2.1 (fun acc a u v h1 h2 h3 h4 h5 => o_l0 hst hf hdx j (i + 1) acc a u v (by omega) h1 h2 h3 h4 h5) hnC hnA (rd_T80 st i).f1.toNat (by omega) (rd_T80 st i).f0.toNat 0 acc a u v (by omega) hu hv hl (by omega) (by omega)
    refine ⟨k + 1, ?_⟩
    rw [sapperref16_Origins.l0, if_pos (by omega), hd, og_cons]
    exact hk
theorem origins_f {st : List S80} {d x : List Int} (h : (ited st d x).2 = 0) (hf : st.length ≤ 1048576) : ∃ k, sapperref16_Origins.f k st d x = some (og st d x 0) := by
  obtain ⟨hall, hs, hA, hC, _⟩ : st.all may = true ∧ sA st + sC st ≤ 16777216 ∧ sA st = d.length ∧ sC st = x.length ∧ True := by
    unfold ited at h
    by_cases h1 : st.all may = true
    · rw [if_pos h1] at h
      by_cases h2 : sA st + sC st ≤ 16777216 ∧ sA st = d.length ∧ sC st = x.length
      · exact ⟨h1, h2.1, h2.2.1, h2.2.2, trivial⟩
      · rw [if_neg h2] at h; cases h
    · rw [if_neg h1] at h; cases h
  obtain ⟨k, hk⟩ := o_l0 (st := st) (d := d) (x := x) hall (by omega) (by omega) st.length 0 [] 0 0 0 (by omega) (by omega) (by omega) rfl (by simpa using hA) (by simpa using hC)
  refine ⟨k, ?_⟩
  simpa [sapperref16_Origins.f, w64] using hk
end Go.Proofs.Ytemlbjpefomboaa
