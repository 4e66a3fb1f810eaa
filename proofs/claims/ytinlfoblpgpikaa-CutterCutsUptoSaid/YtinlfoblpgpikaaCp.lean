/- cutter: Cut, plainly. -/
import Derived.Test.YtinlfoblpgpikaaWv
import Derived.Test.YtinlfoblpgpikaaCk
namespace Go.Proofs.Ytinlfoblpgpikaa
open Go.RowKit Go.Shelf Go.Proofs.YtinlfoblpgpikaaW.PrintWords Go.Proofs.YtinlfoblpgpikaaW.PrintLast Go.Proofs.YtinlfoblpgpikaaW.PrintMore Go.Proofs.Ytinlfoblpgpikaa.Pr
set_option linter.unusedVariables false
set_option linter.unusedSimpArgs false
def winY (t : WS) : S43 := ⟨t.pos, ⟨t.st, t.d, t.x⟩⟩
/-- One byte more: the window that is being made, the windows that are. -/
def cutS (size : Nat) (st : WS × List S43) (o : S94) : WS × List S43 := if (tkw st.1 o).sz = size then (ws0, st.2 ++ [winY (tkw st.1 o)]) else (tkw st.1 o, st.2)
def cutN (size : Nat) (L : List S94) : WS × List S43 := L.foldl (cutS size) (ws0, [])
def cutL (size : Nat) (L : List S94) : List S43 := if 0 < (cutN size L).1.sz then (cutN size L).2 ++ [winY (cutN size L).1] else (cutN size L).2
/-- What Cut answers. -/
def cutR (st : List S82) (d x : List Int) (win : Int) : List S43 × Int :=
  if win < 64 ∨ 65536 < win then ([], 170) else if checked st d x 16777216 ((d.length : Int) + (x.length : Int)) ≠ 0 then ([], checked st d x 16777216 ((d.length : Int) + (x.length : Int))) else (cutL win.toNat (og st d x 0), 0)
theorem cutN_snoc (size : Nat) (L : List S94) (i : Nat) (h : i < L.length) : cutN size (L.take (i + 1)) = cutS size (cutN size (L.take i)) (L.getD i z94) := by
  unfold cutN
  rw [List.take_succ_eq_append_getElem h, List.foldl_append]
  simp [List.getD_eq_getElem?_getD, List.getElem?_eq_getElem h]
theorem tkw_sz {t : WS} {o : S94} (h : WOk t) : (tkw t o).sz = t.sz + 1 := by
  unfold tkw
  by_cases hf : o.f0 = true
  · rw [if_pos hf]
    by_cases ha : t.any = false
    · rw [if_pos ha]
    · rw [if_neg ha]
      cases hc : t.cu with
      | none => exact absurd hc (h.a (by simpa using ha))
      | some s => simp only; split <;> rfl
  · rw [if_neg hf]
    cases t.cu <;> rfl
theorem tkw_at {t : WS} {o : S94} (h : 0 ≤ t.at_ ∧ t.at_ ≤ 16777217) (ho : 0 ≤ o.f1 ∧ o.f1 ≤ 16777216) : 0 ≤ (tkw t o).at_ ∧ (tkw t o).at_ ≤ 16777217 := by
  unfold tkw
  split
  · split
    · simp only; omega
    · split
      · exact h
      · split <;> simp only <;> omega
  · split <;> exact h
/-- What holds while it is cut. -/
structure CInv (size : Nat) (L : List S94) (i : Nat) (t : WS) (l : List S43) : Prop where
  e : cutN size (L.take i) = (t, l)
  ok : WOk t
  lt : t.sz < size
  at_ : 0 ≤ t.at_ ∧ t.at_ ≤ 16777217
  n : l.length * size + t.sz = i
theorem CInv.start {size : Nat} (L : List S94) (h : 0 < size) : CInv size L 0 ws0 [] := ⟨rfl, wok0, h, by decide, by simp [ws0]⟩
theorem CInv.full {size : Nat} {L : List S94} {i : Nat} {t : WS} {l : List S43} (h : CInv size L i t l) (hi : i < L.length) (ho : 0 ≤ (L.getD i z94).f1 ∧ (L.getD i z94).f1 ≤ 16777216) (hf : t.sz + 1 = size) : CInv size L (i + 1) ws0 (l ++ [winY (tkw t (L.getD i z94))]) := by
  refine ⟨?_, wok0, by have := h.lt; show 0 < size; omega, by decide, ?_⟩
  · rw [cutN_snoc size L i hi, h.e]
    exact if_pos (by rw [tkw_sz h.ok]; exact hf)
  · rw [List.length_append, List.length_singleton, Nat.add_mul, Nat.one_mul]
    have := h.n
    show l.length * size + size + 0 = i + 1
    omega
theorem CInv.more {size : Nat} {L : List S94} {i : Nat} {t : WS} {l : List S43} (h : CInv size L i t l) (hi : i < L.length) (ho : 0 ≤ (L.getD i z94).f1 ∧ (L.getD i z94).f1 ≤ 16777216) (hf : t.sz + 1 ≠ size) : CInv size L (i + 1) (tkw t (L.getD i z94)) l := by
  refine ⟨?_, tkw_ok h.ok, by rw [tkw_sz h.ok]; have := h.lt; omega, tkw_at h.at_ ho, by rw [tkw_sz h.ok]; have := h.n; omega⟩
  rw [cutN_snoc size L i hi, h.e]
  exact if_neg (by rw [tkw_sz h.ok]; exact hf)
theorem CInv.done {size : Nat} {L : List S94} {t : WS} {l : List S43} (h : CInv size L L.length t l) : cutL size L = if 0 < t.sz then l ++ [winY t] else l := by
  have := h.e
  rw [List.take_length] at this
  unfold cutL
  rw [this]
theorem og_bd (C M : Int) (hC : C ≤ 200000000000000) (hM : M = 33554432) : ∀ (st : List S82) (d x : List Int) (a : Int), st.all may = true → (M * (st.length : Int) - C ≤ a ∧ a ≤ C - M * (st.length : Int)) → rds 16777216 st a = true → ∀ o ∈ og st d x a, 0 ≤ o.f1 ∧ o.f1 ≤ 16777216
  | [], d, x, a, _, _, _, o, ho => by cases ho
  | s :: l, d, x, a, hm, ha, hr, o, ho => by
    rw [List.all_cons, Bool.and_eq_true] at hm
    have hs := (may_iff s).1 hm.1
    have e : M * (((s :: l).length : Nat) : Int) = M * (l.length : Int) + M := by
      rw [List.length_cons, show ((l.length + 1 : Nat) : Int) = (l.length : Int) + 1 by omega, Int.mul_add, Int.mul_one]
    rw [e] at ha
    obtain ⟨q, hq⟩ : ∃ q, M * (l.length : Int) = q := ⟨_, rfl⟩
    have hq0 : 0 ≤ q := by rw [← hq]; exact Int.mul_nonneg (by omega) (by omega)
    rw [hq] at ha
    rw [rds] at hr
    split at hr
    · cases hr
    · rename_i hn
      rw [og] at ho
      rcases List.mem_append.1 ho with ho | ho
      · obtain ⟨i, hi, rfl⟩ := List.mem_map.1 ho
        have hi := List.mem_range.1 hi
        simp only
        rw [w64 a (by omega), w64 (a + s.f0) (by omega)] at hn
        rw [w64 _ (by omega)]
        omega
      · rcases List.mem_append.1 ho with ho | ho
        · obtain ⟨b, _, rfl⟩ := List.mem_map.1 ho
          simp
        · refine og_bd C M hC hM l _ _ (a + s.f0.toNat + s.f2) hm.2 (by rw [hq]; omega) ?_ o ho
          rw [show a + (s.f0.toNat : Int) + s.f2 = a + s.f0 + s.f2 by omega]
          exact hr
theorem checked_zero {st : List S82} {d x : List Int} {old size : Int} (h : checked st d x old size = 0) : st.all may = true ∧ sA st = d.length ∧ sC st = x.length ∧ sA st + sC st ≤ 16777216 ∧ rds old st 0 = true := by
  unfold checked at h
  split at h
  · cases h
  · unfold ited at h
    split at h
    · rename_i hm
      split at h
      · rename_i hs
        simp only at h
        split at h
        · rename_i h0; exact absurd rfl h0
        · split at h
          · cases h
          · split at h
            · rename_i hr
              exact ⟨hm, hs.2.1, hs.2.2, hs.1, hr⟩
            · cases h
      · simp only at h
        split at h
        · cases h
        · rename_i h0; exact absurd (by decide) h0
    · simp only at h
      split at h
      · cases h
      · rename_i h0; exact absurd (by decide) h0
end Go.Proofs.Ytinlfoblpgpikaa
