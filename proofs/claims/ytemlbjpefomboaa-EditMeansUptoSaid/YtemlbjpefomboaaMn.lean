/- edit: what is made leads there. -/
import Derived.Test.YtemlbjpefomboaaEm
import Derived.Test.YtemlbjpefomboaaOe
import Derived.Test.YtemlbjpefomboaaMd
import Derived.Test.YtemlbjpefomboaaTl
namespace Go.Proofs.Ytemlbjpefomboaa
open Go.RowKit Go.Shelf Go.Proofs.YtemlbjpefomboaaW.PrintWords Go.Proofs.YtemlbjpefomboaaW.PrintLast Go.Proofs.YtemlbjpefomboaaW.PrintMore Go.Proofs.Ytemlbjpefomboaa.Pr
set_option linter.unusedVariables false
set_option linter.unusedSimpArgs false
theorem rd_byte {l : List Int} (h : ∀ b ∈ l, 0 ≤ b ∧ b ≤ 255) {t : Nat} (ht : t < l.length) : 0 ≤ rd l t ∧ rd l t ≤ 255 := by
  have : rd l t = l[t] := by simp [rd, List.getD_eq_getElem?_getD, List.getElem?_eq_getElem ht]
  rw [this]
  exact h _ (List.getElem_mem ht)
theorem leads {old next : List Int} (hb : ∀ b ∈ next, 0 ≤ b ∧ b ≤ 255) : ∀ (l : List S80) (n m : Nat) (sk a : Int) (t : Nat) (d0 x0 : List Int), l.all may = true → (d0.length : Int) = n + sA l → (x0.length : Int) = m + sC l → (t : Int) + n + m + sA l + sC l = next.length →
    Inn old.length (ogr n m sk l d0 x0 a) →
    (ogr n m sk l (dD old next t (ogr n m sk l d0 x0 a)) (xX next t (ogr n m sk l d0 x0 a)) a).map (ob old) = next.drop t ∧ ((dD old next t (ogr n m sk l d0 x0 a)).length : Int) = n + sA l ∧ ((xX next t (ogr n m sk l d0 x0 a)).length : Int) = m + sC l
  | l, n + 1, m, sk, a, t, [], x0, hl, hd, hx, ht, hin => by
    have := sA_nn l hl
    simp at hd
    omega
  | l, n + 1, m, sk, a, t, b :: d0, x0, hl, hd, hx, ht, hin => by
    have h1 := sA_nn l hl
    have h2 := sC_nn l hl
    rw [ogr_add] at hin ⊢
    obtain ⟨e1, e2, e3⟩ := leads hb l n m sk (a + 1) (t + 1) d0 x0 hl (by simp only [List.length_cons] at hd; omega) hx (by omega) (fun o ho => hin o (List.mem_cons_of_mem _ ho))
    have hlt : t < next.length := by omega
    have hr := rd_byte hb hlt
    rw [dD, xX, if_pos rfl, if_pos rfl, ogr_add, List.map_cons, e1, drop_rdI next t hlt]
    refine ⟨?_, by simp only [List.length_cons]; omega, by omega⟩
    congr 1
    show (rd old (wrap64 a) + (rd next t - rd old (wrap64 a)) % 256) % 256 = rd next t
    omega
  | l, 0, m + 1, sk, a, t, d0, [], hl, hd, hx, ht, hin => by
    have := sC_nn l hl
    simp at hx
    omega
  | l, 0, m + 1, sk, a, t, d0, b :: x0, hl, hd, hx, ht, hin => by
    have h1 := sA_nn l hl
    have h2 := sC_nn l hl
    rw [ogr_copy] at hin ⊢
    obtain ⟨e1, e2, e3⟩ := leads hb l 0 m sk a (t + 1) d0 x0 hl hd (by simp only [List.length_cons] at hx; omega) (by omega) (fun o ho => hin o (List.mem_cons_of_mem _ ho))
    have hlt : t < next.length := by omega
    rw [dD, xX, if_neg (by simp), if_neg (by simp), ogr_copy, List.map_cons, e1, drop_rdI next t hlt]
    refine ⟨?_, by omega, by simp only [List.length_cons]; omega⟩
    congr 1
  | [], 0, 0, sk, a, t, d0, x0, hl, hd, hx, ht, hin => by
    simp only [sA, sC] at ht ⊢
    rw [ogr_end, ogr_end, og, og, dD, xX, List.drop_eq_nil_of_le (by omega)]
    simp
  | s :: l, 0, 0, sk, a, t, d0, x0, hl, hd, hx, ht, hin => by
    simp only [List.all_cons, Bool.and_eq_true] at hl
    have hm := (may_iff s).1 hl.1
    simp only [sA, sC] at hd hx ht ⊢
    rw [ogr_end, og_cons] at hin ⊢
    obtain ⟨e1, e2, e3⟩ := leads hb l s.f0.toNat s.f1.toNat s.f2 (a + sk) t d0 x0 hl.2 (by omega) (by omega) (by omega) hin
    rw [ogr_end, og_cons]
    exact ⟨e1, by omega, by omega⟩
termination_by l n m => (l.length, n, m)
theorem means_f (d x : List Int) (st : List S80) (hf : st.length ≤ 1048576) (hb : ∀ b ∈ x, 0 ≤ b ∧ b ≤ 255) : ∃ k, sapperlaw16_EditMeans.f k d x st = some true := by
  obtain ⟨k0, hk0⟩ := make_f d x st hf
  unfold mkOf at hk0
  by_cases h12 : 16777216 < (d.length : Int) ∨ 16777216 < (x.length : Int)
  · rw [if_pos h12] at hk0
    exact ⟨k0, by rw [sapperlaw16_EditMeans.f, hk0]; rfl⟩
  rw [if_neg h12] at hk0
  by_cases hst : st.all may = true
  rotate_left
  · rw [if_neg hst] at hk0
    exact ⟨k0, by rw [sapperlaw16_EditMeans.f, hk0]; rfl⟩
  rw [if_pos hst] at hk0
  by_cases he : sA st + sC st = x.length
  rotate_left
  · rw [if_neg he] at hk0
    exact ⟨k0, by rw [sapperlaw16_EditMeans.f, hk0]; rfl⟩
  rw [if_pos he] at hk0
  by_cases hr : rds d.length st 0 = true
  rotate_left
  · rw [if_neg hr] at hk0
    exact ⟨k0, by rw [sapperlaw16_EditMeans.f, hk0]; rfl⟩
  rw [if_pos hr] at hk0
  have h1 := sA_nn st hst
  have h2 := sC_nn st hst
  obtain ⟨e1, e2, e3⟩ := leads (old := d) hb st 0 0 0 0 0 (nA (sA st)) (nA (sC st)) hst (by simp [nA]; omega) (by simp [nA]; omega) (by omega) (by rw [ogr_end]; exact inn_z hst hf hr)
  rw [ogr_end, ogr_end, List.drop_zero, Int.add_zero] at e1
  rw [ogr_end, Int.add_zero] at e2 e3
  obtain ⟨D, hD⟩ : ∃ D, dD d x 0 (og st (nA (sA st)) (nA (sC st)) 0) = D := ⟨_, rfl⟩
  obtain ⟨X, hX⟩ : ∃ X, xX x 0 (og st (nA (sA st)) (nA (sC st)) 0) = X := ⟨_, rfl⟩
  rw [hD] at e1 e2 hk0
  rw [hX] at e1 e3 hk0
  have hit : ited st D X = (sA st + sC st, 0) := by
    unfold ited
    rw [if_pos hst, if_pos ⟨by omega, by omega, by omega⟩]
  have hE : appliedE d st D X = 0 := by
    unfold appliedE
    rw [if_neg (by omega), hit, if_neg (by simp), hr, if_neg (by simp)]
  have hA : applied d st D X = x := by
    unfold applied
    rw [hE, if_pos rfl, e1]
  obtain ⟨k1, hk1⟩ := itself_f st D X (by unfold fits; omega)
  obtain ⟨k2, hk2⟩ := check_f st D X d.length x.length (by unfold fits; omega)
  have hC : checked st D X d.length x.length = 0 := by
    unfold checked
    rw [if_neg (by omega), hit, if_neg (by simp), if_neg (by simp; omega), if_pos hr]
  refine ⟨k0 + k1 + k2, ?_⟩
  have g0 := at_rounds (g := fun k => edit_Make.f k d x st) (fun k => edit_Make.mono d x st k) (show k0 ≤ k0 + k1 + k2 by omega) hk0
  have g1 := itself_mono st D X (show k1 ≤ k0 + k1 + k2 by omega) hk1
  have g2 := at_rounds (g := fun k => edit_Check.f k st D X d.length x.length) (fun k => edit_Check.mono st D X d.length x.length k) (show k2 ≤ k0 + k1 + k2 by omega) hk2
  have g1' : edit_Size.f (k0 + k1 + k2) st D X = some (sA st + sC st, 0) := by
    unfold edit_Size.f
    rw [g1, hit]
    rfl
  have gA : edit_Apply.f d st D X = some (x, 0) := by
    unfold edit_Apply.f
    rw [if_pos hf, hA, hE]
  have gS : sapperlaw16_same.f x x = some true := by simp [sapperlaw16_same.f]
  rw [hC] at g2
  simp [sapperlaw16_EditMeans.f, g0, gA, g1', gS, he, g2, sapperlaw16_awake.f]
theorem walk_editMeans (A0 : Option Addr) (c0 : Nat) (st : List S80) (A1 : Option Addr) (c1 : Nat) (d : List Int) (A2 : Option Addr) (c2 : Nat) (x : List Int) (w : World)
    (H : EdI w A0 c0 st A1 c1 d A2 c2 x ∧ st.length ≤ 1048576 ∧ d.length ≤ 1048576 ∧ x.length ≤ 1048576) :
    Calls Try.prog 11 #[.agg #[.slice A1 d.length c1, .slice A2 x.length c2, .slice A0 st.length c0]] w fun e w' => e = .returned (.bool true) ∧ Below w.heap.size w w' := by
  obtain ⟨⟨hE, _, _, hx⟩, hf, _, _⟩ := H
  obtain ⟨k, hk⟩ := means_f d x st hf hx
  exact sapperlaw16_EditMeans.calls k A1 c1 d A2 c2 x A0 c0 st true w hE.di hE.hd hE.ex hE.hx hE.s hE.hs hk
end Go.Proofs.Ytemlbjpefomboaa
