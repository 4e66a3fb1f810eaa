/- cutter: the document's Cut: what it tells. -/
import Derived.Test.YtinlfoblpgpikaaRv
namespace Go.Proofs.Ytinlfoblpgpikaa
open Go.RowKit Go.Shelf Go.Proofs.YtinlfoblpgpikaaW.PrintWords Go.Proofs.YtinlfoblpgpikaaW.PrintLast Go.Proofs.YtinlfoblpgpikaaW.PrintMore Go.Proofs.Ytinlfoblpgpikaa.Pr
set_option linter.unusedVariables false
set_option linter.unusedSimpArgs false
def nearW (o : S94) : Prop := 0 ≤ o.f1 ∧ o.f1 ≤ 16777216
theorem mk_l0 (L : List S94) (hL : L.length ≤ 65536) (hn : ∀ o ∈ L, nearW o) : ∀ (j i : Nat) (t : WS), i + j = L.length → WOk t → t.sz + j ≤ 65536 → (0 ≤ t.at_ ∧ t.at_ ≤ 16777217) →
    ∃ k, sapperref17_Make.l0 k (nxW t) (L.map to127) ((L.map to127).length : Int) i t.pos (t.st.map t81) t.d t.x = some (((L.drop i).foldl tkw t).pos, ((L.drop i).foldl tkw t).st.map t81, ((L.drop i).foldl tkw t).d, ((L.drop i).foldl tkw t).x)
  | 0, i, t, hi, ok, hs, ha => by
    refine ⟨1, ?_⟩
    rw [sapperref17_Make.l0, if_neg (by rw [List.length_map]; omega), List.drop_eq_nil_of_le (by omega)]
    rfl
  | j + 1, i, t, hi, ok, hs, ha => by
    have hil : i < L.length := by omega
    have hd : L.drop i = L[i] :: L.drop (i + 1) := List.drop_eq_getElem_cons hil
    have ho := hn L[i] (List.getElem_mem hil)
    have hrd : rd_T127 (L.map to127) (i : Int) = to127 L[i] := by
      simp [rd_T127, List.getD_eq_getElem?_getD, List.getElem?_eq_getElem hil]
    obtain ⟨k, hk⟩ := mk_l0 L hL hn j (i + 1) (tkw t L[i]) (by omega) (tkw_ok ok) (by rw [tkw_sz ok]; omega) (tkw_at ha ho)
    rw [hd]
    exact mk_step (L.map to127) i (by rw [List.length_map]; exact hL) (by rw [List.length_map]; exact hil) t L[i] hrd ok (by omega) ha ho k _ hk
def mkW (L : List S94) : WS := L.foldl tkw ws0
theorem mk_f (L : List S94) (hL : L.length ≤ 65536) (hn : ∀ o ∈ L, nearW o) : ∃ k, sapperref17_Make.f k (L.map to127) = some ((mkW L).pos, (mkW L).st.map t81, (mkW L).d, (mkW L).x) := by
  obtain ⟨k, hk⟩ := mk_l0 L hL hn L.length 0 ws0 (by omega) wok0 (by show 0 + L.length ≤ 65536; omega) (by decide)
  exact ⟨k, hk⟩
theorem fold_sz : ∀ (L : List S94) (t : WS), WOk t → WOk (L.foldl tkw t) ∧ (L.foldl tkw t).sz = t.sz + L.length
  | [], t, ok => ⟨ok, rfl⟩
  | o :: l, t, ok => by
    obtain ⟨h1, h2⟩ := fold_sz l (tkw t o) (tkw_ok ok)
    refine ⟨h1, ?_⟩
    rw [List.foldl_cons, h2, tkw_sz ok, List.length_cons]
    omega
theorem cut_part (size : Nat) (m : List S43) : ∀ (L : List S94) (t : WS), WOk t → t.sz + L.length < size → L.foldl (cutS size) (t, m) = (L.foldl tkw t, m)
  | [], t, ok, _ => rfl
  | o :: l, t, ok, h => by
    rw [List.length_cons] at h
    have e : cutS size (t, m) o = (tkw t o, m) := if_neg (by rw [tkw_sz ok]; omega)
    rw [List.foldl_cons, e, cut_part size m l (tkw t o) (tkw_ok ok) (by rw [tkw_sz ok]; omega)]
    rfl
theorem cut_full (size : Nat) (m : List S43) : ∀ (L : List S94) (t : WS), WOk t → L ≠ [] → t.sz + L.length = size → L.foldl (cutS size) (t, m) = (ws0, m ++ [winY (L.foldl tkw t)])
  | [], t, ok, h, _ => absurd rfl h
  | [o], t, ok, _, h => if_pos (by rw [tkw_sz ok]; exact h)
  | o :: o' :: l, t, ok, _, h => by
    rw [List.length_cons, List.length_cons] at h
    have e : cutS size (t, m) o = (tkw t o, m) := if_neg (by rw [tkw_sz ok]; omega)
    rw [List.foldl_cons, e, cut_full size m (o' :: l) (tkw t o) (tkw_ok ok) (by simp) (by rw [tkw_sz ok, List.length_cons]; omega)]
    rfl
theorem cut_pre (size : Nat) : ∀ (L : List S94) (t : WS) (m m' : List S43), L.foldl (cutS size) (t, m ++ m') = ((L.foldl (cutS size) (t, m')).1, m ++ (L.foldl (cutS size) (t, m')).2)
  | [], t, m, m' => rfl
  | o :: l, t, m, m' => by
    rw [List.foldl_cons, List.foldl_cons]
    unfold cutS
    by_cases h : (tkw t o).sz = size
    · simp only [if_pos h, List.append_assoc]
      exact cut_pre size l ws0 m _
    · simp only [if_neg h]
      exact cut_pre size l _ m _
theorem cutL_nil (size : Nat) : cutL size [] = [] := rfl
theorem cutL_cons (size : Nat) (h : 0 < size) (L : List S94) (hne : L ≠ []) : cutL size L = winY (mkW (L.take size)) :: cutL size (L.drop size) := by
  have hp : 0 < L.length := List.length_pos_iff.2 hne
  rcases Nat.lt_or_ge L.length size with hl | hl
  · rw [List.take_of_length_le (by omega), List.drop_eq_nil_of_le (by omega), cutL_nil]
    have e : cutN size L = (mkW L, []) := cut_part size [] L ws0 wok0 (by show 0 + _ < _; omega)
    have hsz : (mkW L).sz = 0 + L.length := (fold_sz L ws0 wok0).2
    unfold cutL
    rw [e]
    exact if_pos (by show 0 < (mkW L).sz; omega)
  · have e : cutN size L = ((cutN size (L.drop size)).1, winY (mkW (L.take size)) :: (cutN size (L.drop size)).2) := by
      have htl : (L.take size).length = size := by rw [List.length_take]; omega
      have hf : (L.take size).foldl (cutS size) (ws0, []) = (ws0, [] ++ [winY ((L.take size).foldl tkw ws0)]) := cut_full size [] (L.take size) ws0 wok0 (by intro hh; rw [hh] at htl; simp at htl; omega) (by show 0 + _ = _; omega)
      conv => lhs; rw [← List.take_append_drop size L]
      unfold cutN
      rw [List.foldl_append, hf, List.nil_append]
      have := cut_pre size (L.drop size) ws0 [winY ((L.take size).foldl tkw ws0)] []
      rw [List.append_nil] at this
      exact this
    unfold cutL
    rw [e]
    simp only
    split <;> simp
theorem cut_l0 (size : Nat) (hs : 0 < size) (hs2 : size ≤ 65536) : ∀ (n : Nat) (L : List S94), L.length ≤ n → (∀ o ∈ L, nearW o) → ∀ acc : List S45, acc.length + L.length ≤ 1000000000 → ∃ k, sapperref17_Cut.l0 k size acc (L.map to127) = some (acc ++ (cutL size L).map to45, 0)
  | 0, L, hl, hn, acc, ha => by
    obtain rfl : L = [] := List.length_eq_zero_iff.1 (by omega)
    refine ⟨1, ?_⟩
    rw [sapperref17_Cut.l0, if_neg (by simp), cutL_nil]
    simp
  | n + 1, L, hl, hn, acc, ha => by
    by_cases hne : L = []
    · subst hne
      refine ⟨1, ?_⟩
      rw [sapperref17_Cut.l0, if_neg (by simp), cutL_nil]
      simp
    · have hp : 0 < L.length := List.length_pos_iff.2 hne
      have htl : (L.take size).length ≤ 65536 := by rw [List.length_take]; omega
      obtain ⟨k0, hk0⟩ := mk_f (L.take size) htl (fun o ho => hn o (List.mem_of_mem_take ho))
      obtain ⟨k1, hk1⟩ := cut_l0 size hs hs2 n (L.drop size) (by rw [List.length_drop]; omega) (fun o ho => hn o (List.mem_of_mem_drop ho)) (acc ++ [to45 (winY (mkW (L.take size)))]) (by rw [List.length_append, List.length_drop, List.length_singleton]; omega)
      have g0 : sapperref17_Make.f (k0 + k1) ((L.take size).map to127) = _ := at_rounds (g := fun k => sapperref17_Make.f k ((L.take size).map to127)) (fun k => sapperref17_Make.mono _ k) (by omega) hk0
      have g1 := at_rounds (g := fun k => sapperref17_Cut.l0 k size (acc ++ [to45 (winY (mkW (L.take size)))]) ((L.drop size).map to127)) (fun k => sapperref17_Cut.mono_l k _ _ _) (show k1 ≤ k0 + k1 by omega) hk1
      refine ⟨k0 + k1 + 1, ?_⟩
      rw [cutL_cons size hs L hne, List.map_cons]
      have hlm : ((L.map to127).length : Int) = (L.length : Int) := by rw [List.length_map]
      have htm : (L.map to127).take size = (L.take size).map to127 := List.map_take.symm
      have hdm : (L.map to127).drop size = (L.drop size).map to127 := List.map_drop.symm
      have fin : acc ++ to45 (winY (mkW (L.take size))) :: (cutL size (L.drop size)).map to45 = acc ++ [to45 (winY (mkW (L.take size)))] ++ (cutL size (L.drop size)).map to45 := by simp
      rw [sapperref17_Cut.l0, hlm, if_pos (by omega)]
      by_cases hq : (size : Int) > (L.length : Int)
      · have e1 : (L.map to127).take ((L.length : Int)).toNat = (L.take size).map to127 := by
          rw [← htm, List.take_of_length_le (by rw [List.length_map]; omega), List.take_of_length_le (by rw [List.length_map]; omega)]
        have e2 : (L.map to127).drop ((L.length : Int)).toNat = (L.drop size).map to127 := by
          rw [← hdm, List.drop_eq_nil_of_le (by rw [List.length_map]; omega), List.drop_eq_nil_of_le (by rw [List.length_map]; omega)]
        rw [if_pos hq, if_pos (by omega), if_pos (by omega), e1, e2, g0, Option.bind_some, if_pos (by omega), fin]
        exact g1
      · rw [if_neg hq, if_pos (by omega), if_pos (by omega), Int.toNat_natCast, htm, hdm, g0, Option.bind_some, if_pos (by omega), fin]
        exact g1
/-- The document's check, and its room, tell what Cut's check tells. -/
theorem ec_checked (st : List S82) (d x : List Int) (h : (d.length : Int) + (x.length : Int) ≤ 16777216) : ecR st d x = checked st d x 16777216 ((d.length : Int) + (x.length : Int)) := by
  have hc : ¬ ¬ ((0 : Int) ≤ 16777216 ∧ (16777216 : Int) ≤ 16777216 ∧ 0 ≤ (d.length : Int) + (x.length : Int) ∧ (d.length : Int) + (x.length : Int) ≤ 16777216) := by omega
  unfold ecR checked ited
  rw [if_neg hc]
  by_cases hm : st.all may = true
  · rw [if_pos hm, if_pos hm]
    by_cases hq : sA st + sC st ≤ 16777216 ∧ sA st = d.length ∧ sC st = x.length
    · rw [if_pos hq, if_pos hq]
      simp only
      have hz : ¬ ((0 : Int) ≠ 0) := by decide
      have hs : ¬ (sA st + sC st ≠ (d.length : Int) + (x.length : Int)) := by omega
      rw [if_neg hz, if_neg hs]
    · rw [if_neg hq, if_neg hq]
      simp only
      exact (if_pos (by decide)).symm
  · rw [if_neg hm, if_neg hm]
    simp only
    exact (if_pos (by decide)).symm
theorem rcut_f (L : List S81) (d x : List Int) (win : Int) (hL : L.length ≤ 2000000) (hd : d.length ≤ 100000000) (hx : x.length ≤ 100000000) : ∃ k, sapperref17_Cut.f k L d x win = some ((cutR (L.map f81) d x win).1.map to45, (cutR (L.map f81) d x win).2) := by
  have w0 : wrap64 ((d.length : Int) + (x.length : Int)) = (d.length : Int) + (x.length : Int) := w64 _ (by omega)
  unfold cutR
  by_cases h0 : win < 64 ∨ 65536 < win
  · refine ⟨0, ?_⟩
    unfold sapperref17_Cut.f
    rw [rin_f, Option.bind_some, if_pos h0, if_neg (by simp; omega)]
    rfl
  · rw [if_neg h0]
    by_cases h1 : (d.length : Int) + (x.length : Int) > 16777216
    · refine ⟨0, ?_⟩
      have hc : checked (L.map f81) d x 16777216 ((d.length : Int) + (x.length : Int)) = 1 := by
        unfold checked
        rw [if_pos (by omega)]
      unfold sapperref17_Cut.f
      rw [rin_f, Option.bind_some, if_pos (by simp; omega), w0, if_pos h1, hc]
      rfl
    · obtain ⟨k0, hk0⟩ := ec_f L d x (by omega)
      rw [ec_checked _ d x (by omega)] at hk0
      by_cases h2 : checked (L.map f81) d x 16777216 ((d.length : Int) + (x.length : Int)) = 0
      · obtain ⟨hm, hA, hC, hsz, hr⟩ := checked_zero h2
        obtain ⟨k1, hk1⟩ := ways_f L d x (by omega) hd hx hm hA hC
        have hbd := og_bd 200000000000000 33554432 (by omega) rfl (L.map f81) d x 0 hm (by rw [List.length_map]; omega) hr
        obtain ⟨k2, hk2⟩ := cut_l0 win.toNat (by omega) (by omega) (og (L.map f81) d x 0).length (og (L.map f81) d x 0) (Nat.le_refl _) hbd [] (by
          have := og_len (L.map f81) d x 0 hm hA hC
          simp only [List.length_nil]
          omega)
        rw [show ((win.toNat : Nat) : Int) = win by omega, List.nil_append] at hk2
        have g0 := at_rounds (g := fun k => sapperref17_editCheck.f k L d x) (fun k => sapperref17_editCheck.mono _ _ _ k) (show k0 ≤ k0 + k1 + k2 by omega) hk0
        have g1 := at_rounds (g := fun k => sapperref17_Ways.f k L d x 0) (fun k => sapperref17_Ways.mono _ _ _ _ k) (show k1 ≤ k0 + k1 + k2 by omega) hk1
        have g2 := at_rounds (g := fun k => sapperref17_Cut.l0 k win [] ((og (L.map f81) d x 0).map to127)) (fun k => sapperref17_Cut.mono_l k _ _ _) (show k2 ≤ k0 + k1 + k2 by omega) hk2
        refine ⟨k0 + k1 + k2, ?_⟩
        unfold sapperref17_Cut.f
        rw [rin_f, Option.bind_some, if_pos (by simp; omega), w0, if_neg h1, g0, Option.bind_some, if_pos h2, g1, Option.bind_some, g2, h2]
        rfl
      · refine ⟨k0, ?_⟩
        unfold sapperref17_Cut.f
        rw [rin_f, Option.bind_some, if_pos (by simp; omega), w0, if_neg h1, hk0, Option.bind_some, if_neg h2, if_pos h2]
        rfl
end Go.Proofs.Ytinlfoblpgpikaa
