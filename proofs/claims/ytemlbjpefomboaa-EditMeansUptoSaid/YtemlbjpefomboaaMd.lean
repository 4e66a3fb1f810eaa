/- edit: Make and the document's Make, told plainly. -/
import Derived.Test.YtemlbjpefomboaaEk
import Derived.Test.YtemlbjpefomboaaEl
import Derived.Test.YtemlbjpefomboaaRc
namespace Go.Proofs.Ytemlbjpefomboaa
open Go.RowKit Go.Shelf Go.Proofs.YtemlbjpefomboaaW.PrintWords Go.Proofs.YtemlbjpefomboaaW.PrintLast Go.Proofs.YtemlbjpefomboaaW.PrintMore Go.Proofs.Ytemlbjpefomboaa.Pr
set_option linter.unusedVariables false
set_option linter.unusedSimpArgs false
def dD (old next : List Int) : Nat → List S94 → List Int
  | _, [] => []
  | t, o :: L => if o.f0 = true then ((rd next t) - rd old o.f1) % 256 :: dD old next (t + 1) L else dD old next (t + 1) L
def xX (next : List Int) : Nat → List S94 → List Int
  | _, [] => []
  | t, o :: L => if o.f0 = true then xX next (t + 1) L else rd next t :: xX next (t + 1) L
theorem rmk_l1 (old next : List Int) (st : List S80) (L : List S94) (hL : L.length = next.length) (hn : next.length ≤ 16777216) (hin : Inn old.length L) : ∀ (j i : Nat) (D X : List Int), i + j = L.length → D.length + X.length = i →
    sapperref16_Make.l1 (j + 1) old next L i st D X = some (st, D ++ dD old next i (L.drop i), X ++ xX next i (L.drop i), 0)
  | 0, i, D, X, hi, hl => by
    obtain rfl : i = L.length := by omega
    rw [sapperref16_Make.l1, if_neg (by omega), List.drop_length]
    simp [dD, xX]
  | j + 1, i, D, X, hi, hl => by
    have hlt : i < L.length := by omega
    have hg : rd_T94 L i = L[i] := by simp [rd_T94, List.getD_eq_getElem?_getD, List.getElem?_eq_getElem hlt]
    have hd : L.drop i = rd_T94 L i :: L.drop (i + 1) := by rw [List.drop_eq_getElem_cons hlt, hg]
    have hmem : rd_T94 L i ∈ L := by rw [hg]; exact List.getElem_mem hlt
    rw [sapperref16_Make.l1, if_pos (by omega), if_pos (by omega), hd, dD, xX]
    have ih := fun D X h => rmk_l1 old next st L hL hn hin j (i + 1) D X (by omega) h
    by_cases h0 : (rd_T94 L i).f0 = true
    · obtain ⟨h1, h2⟩ := hin _ hmem h0
      rw [if_pos h0, if_pos h0, if_pos h0, if_pos (by omega), if_pos h1, if_pos h2, if_pos (by omega), w64 ((i : Int) + 1) (by omega), show ((i : Int) + 1) = ((i + 1 : Nat) : Int) by omega, ih _ _ (by simp; omega), List.append_assoc, List.singleton_append]
    · rw [if_neg h0, if_neg h0, if_neg h0, if_pos (by omega), if_pos (by omega), w64 ((i : Int) + 1) (by omega), show ((i : Int) + 1) = ((i + 1 : Nat) : Int) by omega, ih _ _ (by simp; omega), List.append_assoc, List.singleton_append]
theorem drop_take_rd (l : List Int) (t m : Nat) (h : t + m + 1 ≤ l.length) : (l.take (t + (m + 1))).drop t = rd l t :: (l.take (t + 1 + m)).drop (t + 1) := by
  rw [List.drop_take, List.drop_take, show t + (m + 1) - t = m + 1 by omega, show t + 1 + m - (t + 1) = m by omega, List.drop_eq_getElem_cons (show t < l.length by omega), List.take_succ_cons]
  congr 1
  simp [rd, List.getD_eq_getElem?_getD, List.getElem?_eq_getElem (show t < l.length by omega)]
theorem copies (old next : List Int) (sk : Int) (l : List S80) (d : List Int) (a : Int) : ∀ (m t : Nat) (x : List Int), m ≤ x.length → t + m ≤ next.length →
    dD old next t (ogr 0 m sk l d x a) = dD old next (t + m) (og l d (x.drop m) (a + sk)) ∧ xX next t (ogr 0 m sk l d x a) = (next.take (t + m)).drop t ++ xX next (t + m) (og l d (x.drop m) (a + sk))
  | 0, t, x, _, _ => by
    rw [ogr_end, List.drop_zero, Nat.add_zero, List.drop_take, Nat.sub_self]
    exact ⟨rfl, rfl⟩
  | m + 1, t, [], h, _ => by simp at h
  | m + 1, t, b :: x, h, h2 => by
    obtain ⟨e1, e2⟩ := copies old next sk l d a m (t + 1) x (by simpa using h) (by omega)
    rw [ogr_copy, dD, xX, if_neg (by simp), if_neg (by simp), e1, e2, List.drop_succ_cons, show t + 1 + m = t + (m + 1) by omega]
    refine ⟨rfl, ?_⟩
    rw [drop_take_rd next t m (by omega), List.cons_append, show t + 1 + m = t + (m + 1) by omega]
theorem mk_l3 {old next : List Int} {st : List S80} {S : List S80} (hn : next.length ≤ 16777216) {i : Nat} (hi : i < st.length) (hf : st.length ≤ 1048576) (hm : may (rd_T80 st i) = true) (hA : 0 ≤ sA (st.drop (i + 1))) (hC : 0 ≤ sC (st.drop (i + 1)))
    {a : Int} {t : Nat} (ha : -70368744177664 ≤ a ∧ a ≤ 70368744177664) (ht : (t : Int) + (rd_T80 st i).f0 + (rd_T80 st i).f1 ≤ next.length)
    (IH : ∀ (D X d x : List Int), (d.length : Int) = sA (st.drop (i + 1)) → (x.length : Int) = sC (st.drop (i + 1)) → (D.length : Int) + X.length = t + (rd_T80 st i).f0 + (rd_T80 st i).f1 → Inn old.length (og (st.drop (i + 1)) d x (a + (rd_T80 st i).f0 + (rd_T80 st i).f2)) →
      ∃ k, edit_Make.l2 k old next (a + (rd_T80 st i).f0 + (rd_T80 st i).f2) (t + (rd_T80 st i).f0 + (rd_T80 st i).f1) st (st.length : Int) ((i + 1 : Nat) : Int) S D X
        = some (S, D ++ dD old next (t + (rd_T80 st i).f0.toNat + (rd_T80 st i).f1.toNat) (og (st.drop (i + 1)) d x (a + (rd_T80 st i).f0 + (rd_T80 st i).f2)), X ++ xX next (t + (rd_T80 st i).f0.toNat + (rd_T80 st i).f1.toNat) (og (st.drop (i + 1)) d x (a + (rd_T80 st i).f0 + (rd_T80 st i).f2)), 0)) :
    ∀ (n q : Nat) (D X d x : List Int), ((q + n : Nat) : Int) = (rd_T80 st i).f0 → (d.length : Int) = n + sA (st.drop (i + 1)) → (x.length : Int) = (rd_T80 st i).f1 + sC (st.drop (i + 1)) → D.length + X.length = t + q →
      Inn old.length (ogr n (rd_T80 st i).f1.toNat (rd_T80 st i).f2 (st.drop (i + 1)) d x (a + q)) →
      ∃ k, edit_Make.l3 k old next a t st (st.length : Int) i (rd_T80 st i).f0 q S D X (rd_T80 st i).f0 (rd_T80 st i).f1 (rd_T80 st i).f2
        = some (S, D ++ dD old next (t + q) (ogr n (rd_T80 st i).f1.toNat (rd_T80 st i).f2 (st.drop (i + 1)) d x (a + q)), X ++ xX next (t + q) (ogr n (rd_T80 st i).f1.toNat (rd_T80 st i).f2 (st.drop (i + 1)) d x (a + q)), 0)
  | 0, q, D, X, d, x, hq, hd, hx, hl, hin => by
    have hm := (may_iff _).1 hm
    have hq' : (q : Int) = (rd_T80 st i).f0 := by omega
    obtain ⟨e1, e2⟩ := copies old next (rd_T80 st i).f2 (st.drop (i + 1)) d (a + q) (rd_T80 st i).f1.toNat (t + q) x (by omega) (by omega)
    have hin2 : Inn old.length (og (st.drop (i + 1)) d (x.drop (rd_T80 st i).f1.toNat) (a + q + (rd_T80 st i).f2)) := by
      have : ∀ (m : Nat) (x : List Int), m ≤ x.length → Inn old.length (ogr 0 m (rd_T80 st i).f2 (st.drop (i + 1)) d x (a + q)) → Inn old.length (og (st.drop (i + 1)) d (x.drop m) (a + q + (rd_T80 st i).f2)) := by
        intro m
        induction m with
        | zero => intro x _ h; rw [ogr_end] at h; exact h
        | succ m ih =>
          intro x hx h
          cases x with
          | nil => simp at hx
          | cons b x =>
            rw [ogr_copy] at h
            exact ih x (by simpa using hx) (fun o ho => h o (List.mem_cons_of_mem _ ho))
      exact this _ x (by omega) hin
    rw [e1, e2]
    rw [show a + (q : Int) + (rd_T80 st i).f2 = a + (rd_T80 st i).f0 + (rd_T80 st i).f2 by omega] at hin2 ⊢
    have hlt : ((next.take (t + q + (rd_T80 st i).f1.toNat)).drop (t + q)).length = (rd_T80 st i).f1.toNat := by simp; omega
    obtain ⟨k, hk⟩ := IH D (X ++ (next.take (t + q + (rd_T80 st i).f1.toNat)).drop (t + q)) d (x.drop (rd_T80 st i).f1.toNat) (by omega) (by rw [List.length_drop]; omega) (by rw [List.length_append, hlt]; omega) hin2
    refine ⟨k + 1, ?_⟩
    have f0 : (rd_T80 st i).f0.toNat = q := by omega
    rw [edit_Make.l3, if_neg (by omega), w64 ((t : Int) + (rd_T80 st i).f0) (by omega), w64 ((t : Int) + (rd_T80 st i).f0 + (rd_T80 st i).f1) (by omega), if_pos (by omega), if_pos (by omega), if_pos (by omega),
      show ((t : Int) + (rd_T80 st i).f0 + (rd_T80 st i).f1).toNat = t + q + (rd_T80 st i).f1.toNat by omega, show ((t : Int) + (rd_T80 st i).f0).toNat = t + q by omega, if_pos (by rw [hlt]; omega),
      w64 ((rd_T80 st i).f0 + (rd_T80 st i).f2) (by omega), w64 ((rd_T80 st i).f0 + (rd_T80 st i).f1) (by omega), w64 (a + _) (by omega), w64 ((t : Int) + ((rd_T80 st i).f0 + (rd_T80 st i).f1)) (by omega), w64 ((i : Int) + 1) (by omega), ← Int.add_assoc, ← Int.add_assoc, show ((i : Int) + 1) = ((i + 1 : Nat) : Int) by omega, hk, f0, List.append_assoc]
  | n + 1, q, D, X, [], x, hq, hd, hx, hl, hin => by simp at hd; omega
  | n + 1, q, D, X, b :: d, x, hq, hd, hx, hl, hin => by
    have hm' := (may_iff _).1 hm
    rw [ogr_add] at hin ⊢
    obtain ⟨h1, h2⟩ := hin _ (List.mem_cons_self) rfl
    simp only [w64 (a + (q : Int)) (by omega)] at h1 h2
    rw [dD, xX, if_pos rfl, if_pos rfl]
    obtain ⟨k, hk⟩ := mk_l3 hn hi hf hm hA hC ha ht IH n (q + 1) (D ++ [((rd next (t + q : Nat)) - rd old (wrap64 (a + (q : Int)))) % 256]) X d x (by omega) (by simp only [List.length_cons] at hd; omega) hx (by simp; omega) (by rw [show a + ((q + 1 : Nat) : Int) = a + q + 1 by omega]; exact fun o ho => hin o (List.mem_cons_of_mem _ ho))
    rw [show a + ((q + 1 : Nat) : Int) = a + q + 1 by omega, show t + (q + 1) = t + q + 1 by omega] at hk
    refine ⟨k + 1, ?_⟩
    rw [edit_Make.l3, if_pos (by omega), w64 ((t : Int) + (q : Int)) (by omega), if_pos (by omega), if_pos (by omega), w64 (a + (q : Int)) (by omega), if_pos h1, if_pos h2, if_pos (by omega), w64 ((q : Int) + 1) (by omega), show ((q : Int) + 1) = ((q + 1 : Nat) : Int) by omega, show (t : Int) + (q : Int) = ((t + q : Nat) : Int) by omega]
    rw [w64 (a + (q : Int)) (by omega)] at hk
    rw [hk, List.append_assoc, List.singleton_append]
theorem mk_l2 {old next : List Int} {st : List S80} {S : List S80} (hn : next.length ≤ 16777216) (hf : st.length ≤ 1048576) (hst : st.all may = true) : ∀ (j i : Nat) (a : Int) (t : Nat) (D X d x : List Int), i + j = st.length →
    -(33554432 * (i : Int)) ≤ a → a ≤ 33554432 * (i : Int) → (t : Int) + sA (st.drop i) + sC (st.drop i) = next.length → (d.length : Int) = sA (st.drop i) → (x.length : Int) = sC (st.drop i) → D.length + X.length = t → Inn old.length (og (st.drop i) d x a) →
    ∃ k, edit_Make.l2 k old next a t st (st.length : Int) i S D X = some (S, D ++ dD old next t (og (st.drop i) d x a), X ++ xX next t (og (st.drop i) d x a), 0)
  | 0, i, a, t, D, X, d, x, hi, h1, h2, ht, hd, hx, hl, hin => by
    obtain rfl : i = st.length := by omega
    refine ⟨1, ?_⟩
    rw [edit_Make.l2, if_neg (by omega), List.drop_length, og]
    simp [dD, xX]
  | j + 1, i, a, t, D, X, d, x, hi, h1, h2, ht, hd, hx, hl, hin => by
    have hlt : i < st.length := by omega
    have hdr := drop_rd st i hlt
    have hall := all_drop hst i
    rw [hdr, List.all_cons, Bool.and_eq_true] at hall
    have hm := (may_iff _).1 hall.1
    have eA : sA (st.drop i) = (rd_T80 st i).f0 + sA (st.drop (i + 1)) := by rw [hdr]; rfl
    have eC : sC (st.drop i) = (rd_T80 st i).f1 + sC (st.drop (i + 1)) := by rw [hdr]; rfl
    have hnA := sA_nn _ hall.2
    have hnC := sC_nn _ hall.2
    rw [hdr, og_cons] at hin ⊢
    obtain ⟨k, hk⟩ := mk_l3 (S := S) hn hlt hf hall.1 hnA hnC (a := a) (t := t) (by omega) (by omega)
      (fun D X d x e1 e2 e3 e4 => by
        obtain ⟨k, hk⟩ := mk_l2 (S := S) hn hf hst j (i + 1) (a + (rd_T80 st i).f0 + (rd_T80 st i).f2) (t + (rd_T80 st i).f0.toNat + (rd_T80 st i).f1.toNat) D X d x (by omega) (by omega) (by omega) (by omega) e1 e2 (by omega) e4
        refine ⟨k, ?_⟩
        rw [← hk, show ((t + (rd_T80 st i).f0.toNat + (rd_T80 st i).f1.toNat : Nat) : Int) = (t : Int) + (rd_T80 st i).f0 + (rd_T80 st i).f1 by omega])
      (rd_T80 st i).f0.toNat 0 D X d x (by omega) (by omega) (by omega) (by omega) (by simpa using hin)
    refine ⟨k + 1, ?_⟩
    rw [edit_Make.l2, if_pos (by omega), if_pos (by omega), if_pos (by omega)]
    simpa using hk
theorem mk_l1 {old next : List Int} {st : List S80} (hn : next.length ≤ 16777216) (ho : old.length ≤ 16777216) (hf : st.length ≤ 1048576) (hst : st.all may = true) (R : List S80 × List Int × List Int × Int)
    (H : sA st + sC st = next.length → ∃ k, (edit_reads.f k st (old.length : Int)).bind (fun t211 => (if t211 = true then ((api_Step.f st).bind fun t212 => (edit_Make.l2 k old next 0 0 st (st.length : Int) 0 t212 ([] : List Int) ([] : List Int))) else (some (([] : List (S80)), ([] : List Int), ([] : List Int), 161)))) = some R)
    (H2 : sA st + sC st ≠ next.length → R = ([], [], [], 162)) :
    ∀ (j i : Nat) (n : Int), i + j = st.length → 0 ≤ n → n + sA (st.drop i) + sC (st.drop i) = sA st + sC st → n ≤ next.length → ∃ k, edit_Make.l1 k old next st n st (st.length : Int) i = some R
  | 0, i, n, hi, h0, hs, hle => by
    obtain rfl : i = st.length := by omega
    rw [List.drop_length] at hs
    simp only [sA, sC] at hs
    by_cases he : sA st + sC st = next.length
    · obtain ⟨k, hk⟩ := H he
      refine ⟨k + 1, ?_⟩
      rw [edit_Make.l1, if_neg (by omega), if_pos (by omega)]
      exact hk
    · refine ⟨1, ?_⟩
      rw [edit_Make.l1, if_neg (by omega), if_neg (by omega), H2 he]
  | j + 1, i, n, hi, h0, hs, hle => by
    have hlt : i < st.length := by omega
    have hdr := drop_rd st i hlt
    have hall := all_drop hst i
    rw [hdr, List.all_cons, Bool.and_eq_true] at hall
    have hm := (may_iff _).1 hall.1
    have eA : sA (st.drop i) = (rd_T80 st i).f0 + sA (st.drop (i + 1)) := by rw [hdr]; rfl
    have eC : sC (st.drop i) = (rd_T80 st i).f1 + sC (st.drop (i + 1)) := by rw [hdr]; rfl
    have hnA := sA_nn _ hall.2
    have hnC := sC_nn _ hall.2
    by_cases hb : n + ((rd_T80 st i).f0 + (rd_T80 st i).f1) > next.length
    · refine ⟨1, ?_⟩
      rw [edit_Make.l1, if_pos (by omega), if_pos (by omega), if_pos (by omega), w64 ((rd_T80 st i).f0 + (rd_T80 st i).f1) (by omega), w64 (n + _) (by omega), if_pos hb, H2 (by omega)]
    · obtain ⟨k, hk⟩ := mk_l1 hn ho hf hst R H H2 j (i + 1) (n + ((rd_T80 st i).f0 + (rd_T80 st i).f1)) (by omega) (by omega) (by omega) (by omega)
      refine ⟨k + 1, ?_⟩
      rw [edit_Make.l1, if_pos (by omega), if_pos (by omega), if_pos (by omega), w64 ((rd_T80 st i).f0 + (rd_T80 st i).f1) (by omega), w64 (n + _) (by omega), if_neg hb, w64 ((i : Int) + 1) (by omega), show ((i : Int) + 1) = ((i + 1 : Nat) : Int) by omega, hk]
def nA (n : Int) : List Int := List.replicate n.toNat 0
def mkOf (old next : List Int) (st : List S80) : List S80 × List Int × List Int × Int :=
  if 16777216 < (old.length : Int) ∨ 16777216 < (next.length : Int) then ([], [], [], 1)
  else if st.all may = true then
    (if sA st + sC st = next.length then
      (if rds old.length st 0 = true then (st, dD old next 0 (og st (nA (sA st)) (nA (sC st)) 0), xX next 0 (og st (nA (sA st)) (nA (sC st)) 0), 0) else ([], [], [], 161))
    else ([], [], [], 162))
  else ([], [], [], 160)
theorem mk_l0 {old next : List Int} {st : List S80} (hf : st.length ≤ 1048576) (R : List S80 × List Int × List Int × Int)
    (H : st.all may = true → ∃ k, edit_Make.l1 k old next st 0 st (st.length : Int) 0 = some R) (H2 : st.all may ≠ true → R = ([], [], [], 160)) :
    ∀ (j i : Nat), i + j = st.length → (st.take i).all may = true → ∃ k, edit_Make.l0 k old next st st (st.length : Int) i = some R
  | 0, i, hi, ht => by
    obtain rfl : i = st.length := by omega
    rw [List.take_length] at ht
    obtain ⟨k, hk⟩ := H ht
    exact ⟨k + 1, by rw [edit_Make.l0, if_neg (by omega)]; exact hk⟩
  | j + 1, i, hi, ht => by
    have hlt : i < st.length := by omega
    have hd := drop_rd st i hlt
    have hta : st.take (i + 1) = st.take i ++ [rd_T80 st i] := by
      rw [List.take_succ_eq_append_getElem hlt]
      congr 2
      simp [rd_T80, List.getD_eq_getElem?_getD, List.getElem?_eq_getElem hlt]
    by_cases hm : may (rd_T80 st i) = true
    · obtain ⟨k, hk⟩ := mk_l0 hf R H H2 j (i + 1) (by omega) (by rw [hta, List.all_append, ht]; simp [hm])
      refine ⟨k + 1, ?_⟩
      rw [edit_Make.l0, if_pos (by omega), if_pos (by omega), if_pos (by omega), stepMay_f, Option.bind_some, if_pos hm, w64 _ (by omega), show ((i : Int) + 1) = ((i + 1 : Nat) : Int) by omega, hk]
    · refine ⟨1, ?_⟩
      rw [edit_Make.l0, if_pos (by omega), if_pos (by omega), if_pos (by omega), stepMay_f, Option.bind_some, if_neg hm, H2]
      intro h
      have := all_drop h i
      rw [hd, List.all_cons, Bool.and_eq_true] at this
      exact hm this.1
theorem inn_z {old : List Int} {st : List S80} (hst : st.all may = true) (hf : st.length ≤ 1048576) (h : rds old.length st 0 = true) : Inn old.length (og st (nA (sA st)) (nA (sC st)) 0) := inn_of hst hf h
theorem make_f (old next : List Int) (st : List S80) (hf : st.length ≤ 1048576) : ∃ k, edit_Make.f k old next st = some (mkOf old next st) := by
  by_cases h1 : (old.length : Int) > 16777216
  · refine ⟨1, ?_⟩
    rw [edit_Make.f, if_pos h1, edit_Make.j0, if_pos rfl, mkOf, if_pos (.inl h1)]
  · by_cases h2 : (next.length : Int) > 16777216
    · refine ⟨1, ?_⟩
      rw [edit_Make.f, if_neg h1, edit_Make.j0, if_pos (decide_eq_true h2), mkOf, if_pos (.inr h2)]
    · have h12 : ¬ (16777216 < (old.length : Int) ∨ 16777216 < (next.length : Int)) := by omega
      obtain ⟨k, hk⟩ := mk_l0 (old := old) (next := next) hf (mkOf old next st) (fun hst => by
          have := mk_l1 (old := old) (next := next) (by omega) (by omega) hf hst (mkOf old next st) (fun he => by
              obtain ⟨k1, hk1⟩ := reads_f st old.length (by unfold fits; omega)
              by_cases hr : rds old.length st 0 = true
              · obtain ⟨k2, hk2⟩ := mk_l2 (old := old) (next := next) (st := st) (S := st) (by omega) hf hst st.length 0 0 0 [] [] (nA (sA st)) (nA (sC st)) (by omega) (by omega) (by omega) (by simpa using he) (by have := sA_nn st hst; simp [nA]; omega) (by have := sC_nn st hst; simp [nA]; omega) rfl (inn_z hst hf hr)
                refine ⟨k1 + k2, ?_⟩
                have g1 : edit_reads.f (k1 + k2) st old.length = some (rds old.length st 0) := at_rounds (g := fun k => edit_reads.f k st old.length) (fun k => edit_reads.mono st old.length k) (by omega) hk1
                have g2 := at_rounds (g := fun k => edit_Make.l2 k old next 0 ((0 : Nat) : Int) st (st.length : Int) ((0 : Nat) : Int) st [] []) (fun k => (edit_Make.mono_l k).2.2.2.1 _ _ _ _ _ _ _ _ _ _) (show k2 ≤ k1 + k2 by omega) hk2
                rw [g1, Option.bind_some, if_pos hr]
                unfold api_Step.f
                rw [if_pos (by omega), Option.bind_some]
                refine g2.trans ?_
                rw [mkOf, if_neg h12, if_pos hst, if_pos he, if_pos hr]
                rfl
              · refine ⟨k1, ?_⟩
                rw [hk1, Option.bind_some, if_neg hr, mkOf, if_neg h12, if_pos hst, if_pos he, if_neg hr])
            (fun he => by rw [mkOf, if_neg h12, if_pos hst, if_neg he]) st.length 0 0 (by omega) (by omega) (by simp) (by omega)
          simpa using this)
        (fun hst => by rw [mkOf, if_neg h12, if_neg hst]) st.length 0 (by omega) (by simp)
      refine ⟨k + 1, ?_⟩
      rw [edit_Make.f, if_neg h1, edit_Make.j0, decide_eq_false h2, if_neg (by decide)]
      exact hk
theorem nA_sum {st : List S80} {next : List Int} (hst : st.all may = true) (hn : next.length ≤ 16777216) (he : sA st + sC st = next.length) : (ited st (nA (sA st)) (nA (sC st))).2 = 0 := by
  have h1 := sA_nn st hst
  have h2 := sC_nn st hst
  unfold ited
  rw [if_pos hst, if_pos ⟨by omega, by simp [nA]; omega, by simp [nA]; omega⟩]
theorem rmk_l0 {old next : List Int} {st : List S80} (hf : st.length ≤ 1048576) (hn : next.length ≤ 16777216) (ho : old.length ≤ 16777216) : ∀ (j i : Nat) (a c : Int), i + j = st.length → (st.take i).all may = true →
    0 ≤ a → 0 ≤ c → a ≤ 16777216 * (i : Int) → c ≤ 16777216 * (i : Int) → a + sA (st.drop i) = sA st → c + sC (st.drop i) = sC st → ∃ k, sapperref16_Make.l0 k old next st a c i = some (mkOf old next st)
  | 0, i, a, c, hi, ht, ha, hc, ha2, hc2, hsa, hsc => by
    obtain rfl : i = st.length := by omega
    rw [List.take_length] at ht
    rw [List.drop_length] at hsa hsc
    simp only [sA, sC, Int.add_zero] at hsa hsc
    have h12 : ¬ (16777216 < (old.length : Int) ∨ 16777216 < (next.length : Int)) := by omega
    by_cases he : sA st + sC st = next.length
    · have hit := nA_sum ht hn he
      obtain ⟨k1, hk1⟩ := origins_f hit hf
      have hlen : ((og st (nA (sA st)) (nA (sC st)) 0).length : Int) = next.length := by
        rw [og_len st _ _ 0 ht (ited_all hit).2.2.1 (ited_all hit).2.2.2.1]
        exact he
      obtain ⟨k2, hk2⟩ := outside_f (og st (nA (sA st)) (nA (sC st)) 0) old.length (by unfold fits; omega)
      by_cases hr : rds old.length st 0 = true
      · have h3 := rmk_l1 old next st (og st (nA (sA st)) (nA (sC st)) 0) (by omega) hn (inn_z ht hf hr) next.length 0 [] [] (by omega) rfl
        refine ⟨(k1 + k2 + (next.length + 1)) + 1, ?_⟩
        have g1 : sapperref16_Origins.f (k1 + k2 + (next.length + 1)) st (nA (sA st)) (nA (sC st)) = some (og st (nA (sA st)) (nA (sC st)) 0) := at_rounds (g := fun k => sapperref16_Origins.f k st (nA (sA st)) (nA (sC st))) (fun k => sapperref16_Origins.mono _ _ _ k) (by omega) hk1
        have g2 : sapperref16_outside.f (k1 + k2 + (next.length + 1)) (og st (nA (sA st)) (nA (sC st)) 0) old.length = some ((og st (nA (sA st)) (nA (sC st)) 0).any (outB old.length)) := at_rounds (g := fun k => sapperref16_outside.f k (og st (nA (sA st)) (nA (sC st)) 0) old.length) (fun k => sapperref16_outside.mono _ _ k) (by omega) hk2
        have g3 := at_rounds (g := fun k => sapperref16_Make.l1 k old next (og st (nA (sA st)) (nA (sC st)) 0) ((0 : Nat) : Int) st [] []) (fun k => (sapperref16_Make.mono_l k).2.2 _ _ _ _ _ _ _) (show next.length + 1 ≤ k1 + k2 + (next.length + 1) by omega) h3
        rw [sapperref16_Make.l0, if_neg (by omega), w64 (a + c) (by omega), if_pos (by omega), Option.bind_some, if_pos (by simp; omega), Option.bind_some, if_pos (by omega), if_pos (by omega), if_pos (by omega), if_pos (by omega), List.nil_append, hsa, hsc]
        have g1' := g1
        unfold nA at g1'
        rw [g1', Option.bind_some]
        have g2' := g2
        unfold nA at g2'
        rw [g2', Option.bind_some]
        have := out_rds (d := nA (sA st)) (x := nA (sC st)) ht hf (old.length : Int)
        unfold nA at this
        rw [this, hr, if_neg (by decide)]
        unfold nA at g3
        refine g3.trans ?_
        rw [mkOf, if_neg h12, if_pos ht, if_pos he, if_pos hr, List.drop_zero]
        rfl
      · refine ⟨(k1 + k2) + 1, ?_⟩
        have g1 : sapperref16_Origins.f (k1 + k2) st (nA (sA st)) (nA (sC st)) = some (og st (nA (sA st)) (nA (sC st)) 0) := at_rounds (g := fun k => sapperref16_Origins.f k st (nA (sA st)) (nA (sC st))) (fun k => sapperref16_Origins.mono _ _ _ k) (by omega) hk1
        have g2 : sapperref16_outside.f (k1 + k2) (og st (nA (sA st)) (nA (sC st)) 0) old.length = some ((og st (nA (sA st)) (nA (sC st)) 0).any (outB old.length)) := at_rounds (g := fun k => sapperref16_outside.f k (og st (nA (sA st)) (nA (sC st)) 0) old.length) (fun k => sapperref16_outside.mono _ _ k) (by omega) hk2
        rw [sapperref16_Make.l0, if_neg (by omega), w64 (a + c) (by omega), if_pos (by omega), Option.bind_some, if_pos (by simp; omega), Option.bind_some, if_pos (by omega), if_pos (by omega), if_pos (by omega), if_pos (by omega), List.nil_append, hsa, hsc]
        have g1' := g1
        unfold nA at g1'
        rw [g1', Option.bind_some]
        have g2' := g2
        unfold nA at g2'
        rw [g2', Option.bind_some]
        have := out_rds (d := nA (sA st)) (x := nA (sC st)) ht hf (old.length : Int)
        unfold nA at this
        rw [this]
        have hr' : rds old.length st 0 = false := by simpa using hr
        rw [hr', if_pos (by decide), mkOf, if_neg h12, if_pos ht, if_pos he, if_neg hr]
    · refine ⟨1, ?_⟩
      rw [sapperref16_Make.l0, if_neg (by omega), w64 (a + c) (by omega), if_neg (by omega), mkOf, if_neg h12, if_pos ht, if_neg he]
  | j + 1, i, a, c, hi, ht, ha, hc, ha2, hc2, hsa, hsc => by
    have hlt : i < st.length := by omega
    have hd := drop_rd st i hlt
    have h12 : ¬ (16777216 < (old.length : Int) ∨ 16777216 < (next.length : Int)) := by omega
    have hta : st.take (i + 1) = st.take i ++ [rd_T80 st i] := by
      rw [List.take_succ_eq_append_getElem hlt]
      congr 2
      simp [rd_T80, List.getD_eq_getElem?_getD, List.getElem?_eq_getElem hlt]
    by_cases hm : may (rd_T80 st i) = true
    · have hm' := (may_iff _).1 hm
      have eA : sA (st.drop i) = (rd_T80 st i).f0 + sA (st.drop (i + 1)) := by rw [hd]; rfl
      have eC : sC (st.drop i) = (rd_T80 st i).f1 + sC (st.drop (i + 1)) := by rw [hd]; rfl
      obtain ⟨k, hk⟩ := rmk_l0 hf hn ho j (i + 1) (a + (rd_T80 st i).f0) (c + (rd_T80 st i).f1) (by omega) (by rw [hta, List.all_append, ht]; simp [hm]) (by omega) (by omega) (by omega) (by omega) (by omega) (by omega)
      refine ⟨k + 1, ?_⟩
      rw [sapperref16_Make.l0, if_pos (by omega), if_pos (by omega), rstep_f, Option.bind_some, if_pos hm, w64 (a + _) (by omega), w64 (c + _) (by omega), w64 ((i : Int) + 1) (by omega), show ((i : Int) + 1) = ((i + 1 : Nat) : Int) by omega, hk]
    · refine ⟨1, ?_⟩
      rw [sapperref16_Make.l0, if_pos (by omega), if_pos (by omega), rstep_f, Option.bind_some, if_neg hm, mkOf, if_neg h12, if_neg]
      intro h
      have := all_drop h i
      rw [hd, List.all_cons, Bool.and_eq_true] at this
      exact hm this.1
theorem rmake_f (old next : List Int) (st : List S80) (hf : st.length ≤ 1048576) : ∃ k, sapperref16_Make.f k old next st = some (mkOf old next st) := by
  by_cases h1 : (old.length : Int) > 16777216
  · refine ⟨1, ?_⟩
    rw [sapperref16_Make.f, if_pos h1, sapperref16_Make.j0, if_pos rfl, mkOf, if_pos (.inl h1)]
  · by_cases h2 : (next.length : Int) > 16777216
    · refine ⟨1, ?_⟩
      rw [sapperref16_Make.f, if_neg h1, sapperref16_Make.j0, if_pos (decide_eq_true h2), mkOf, if_pos (.inr h2)]
    · obtain ⟨k, hk⟩ := rmk_l0 (old := old) (next := next) hf (by omega) (by omega) st.length 0 0 0 (by omega) (by simp) (by omega) (by omega) (by omega) (by omega) (by simp) (by simp)
      refine ⟨k + 1, ?_⟩
      rw [sapperref16_Make.f, if_neg h1, sapperref16_Make.j0, decide_eq_false h2, if_neg (by decide)]
      exact hk
end Go.Proofs.Ytemlbjpefomboaa
