/- edit: what the normal edit of origins means: these very origins; of edits made one. -/
import Derived.Test.YtemlbjpefomboaaNm
import Derived.Test.YtemlbjpefomboaaCx
namespace Go.Proofs.Ytemlbjpefomboaa
open Go.RowKit Go.Shelf Go.Proofs.YtemlbjpefomboaaW.PrintWords Go.Proofs.YtemlbjpefomboaaW.PrintLast Go.Proofs.YtemlbjpefomboaaW.PrintMore Go.Proofs.Ytemlbjpefomboaa.Pr
set_option linter.unusedVariables false
set_option linter.unusedSimpArgs false
def sP : List S80 → Int
  | [] => 0
  | s :: l => s.f0 + s.f2 + sP l
theorem sP_app : ∀ (l k : List S80), sP (l ++ k) = sP l + sP k
  | [], k => by simp [sP]
  | s :: l, k => by simp only [List.cons_append, sP, sP_app l k]; omega
theorem sA_app : ∀ (l k : List S80), sA (l ++ k) = sA l + sA k
  | [], k => by simp [sA]
  | s :: l, k => by simp only [List.cons_append, sA, sA_app l k]; omega
theorem sC_app : ∀ (l k : List S80), sC (l ++ k) = sC l + sC k
  | [], k => by simp [sC]
  | s :: l, k => by simp only [List.cons_append, sC, sC_app l k]; omega
theorem rng_app (n : Nat) (p : Int) (d1 d2 : List Int) (h : n ≤ d1.length) : (List.range n).map (fun (i : Nat) => (⟨true, wrap64 (p + (i : Int)), (d1 ++ d2).getD i 0⟩ : S94)) = (List.range n).map (fun (i : Nat) => (⟨true, wrap64 (p + (i : Int)), d1.getD i 0⟩ : S94)) := by
  apply List.map_congr_left
  intro i hi
  have := List.mem_range.1 hi
  simp only [List.getD_eq_getElem?_getD]
  rw [List.getElem?_append_left (by omega)]
theorem og_app : ∀ (l1 : List S80) (d1 x1 : List Int) (l2 : List S80) (d2 x2 : List Int) (a : Int), l1.all may = true → sA l1 = d1.length → sC l1 = x1.length → og (l1 ++ l2) (d1 ++ d2) (x1 ++ x2) a = og l1 d1 x1 a ++ og l2 d2 x2 (a + sP l1)
  | [], d1, x1, l2, d2, x2, a, _, hd, hx => by
    simp only [sA, sC] at hd hx
    have h1 : d1 = [] := List.eq_nil_of_length_eq_zero (by omega)
    have h2 : x1 = [] := List.eq_nil_of_length_eq_zero (by omega)
    subst h1 h2
    simp [og, sP]
  | s :: l1, d1, x1, l2, d2, x2, a, h, hd, hx => by
    simp only [List.all_cons, Bool.and_eq_true] at h
    have hm := (may_iff s).1 h.1
    have h1 := sA_nn l1 h.2
    have h2 := sC_nn l1 h.2
    simp only [sA, sC] at hd hx
    have k1 : s.f0.toNat ≤ d1.length := by omega
    have k2 : s.f1.toNat ≤ x1.length := by omega
    simp only [List.cons_append, og, sP]
    rw [rng_app _ _ _ _ k1, List.drop_append_of_le_length k1, List.drop_append_of_le_length k2, List.take_append_of_le_length k2, og_app l1 _ _ l2 d2 x2 _ h.2 (by rw [List.length_drop]; omega) (by rw [List.length_drop]; omega),
      show a + (s.f0.toNat : Int) + s.f2 + sP l1 = a + (s.f0 + s.f2 + sP l1) by omega]
    simp only [List.append_assoc]
/-- The origins of a step that is begun. -/
def ogc (p : Int) (dc xc : List Int) : List S94 := (List.range dc.length).map (fun (i : Nat) => (⟨true, wrap64 (p + (i : Int)), dc.getD i 0⟩ : S94)) ++ xc.map (fun b => (⟨false, 0, b⟩ : S94))
theorem og_one (p k : Int) (dc xc : List Int) : og [⟨dc.length, xc.length, k⟩] dc xc p = ogc p dc xc := by
  simp only [og, ogc, Int.toNat_natCast, List.take_length, List.append_nil]
theorem ogc_add (p : Int) (dc : List Int) (b : Int) : ogc p (dc ++ [b]) [] = ogc p dc [] ++ [⟨true, wrap64 (p + dc.length), b⟩] := by
  simp only [ogc, List.length_append, List.length_cons, List.length_nil, Nat.zero_add, List.range_succ, List.map_append, List.map_cons, List.map_nil, List.append_nil]
  rw [rng_app dc.length p dc [b] (Nat.le_refl _)]
  simp [List.getD_eq_getElem?_getD]
theorem ogc_new (p : Int) (b : Int) : ogc p [b] [] = [⟨true, wrap64 p, b⟩] := by simp [ogc]
theorem ogc_copy (p : Int) (dc xc : List Int) (b : Int) : ogc p dc (xc ++ [b]) = ogc p dc xc ++ [⟨false, 0, b⟩] := by simp [ogc]
/-- Origins as they are told. -/
def CanO (o : S94) : Prop := (o.f0 = true → wrap64 o.f1 = o.f1) ∧ (o.f0 = false → o.f1 = 0)
def Can (L : List S94) : Prop := ∀ o ∈ L, CanO o
theorem w64w (a : Int) : wrap64 (wrap64 a) = wrap64 a := by unfold wrap64; omega
theorem og_can : ∀ (st : List S80) (d x : List Int) (a : Int), Can (og st d x a)
  | [], _, _, _, o, ho => by simp [og] at ho
  | s :: l, d, x, a, o, ho => by
    simp only [og, List.mem_append, List.mem_map] at ho
    rcases ho with ⟨i, _, rfl⟩ | ⟨b, _, rfl⟩ | ho
    · exact ⟨fun _ => w64w _, fun h => by simp at h⟩
    · exact ⟨fun h => by simp at h, fun _ => rfl⟩
    · exact og_can l _ _ _ o ho
/-- What has been made so far means what has been told so far. -/
def TsI (t : TS) (R : List S94) : Prop :=
  ∃ dD dc xD xc, t.d = dD ++ dc ∧ t.x = xD ++ xc ∧ sA t.dn = dD.length ∧ sC t.dn = xD.length ∧ t.dn.all may = true ∧ t.d.length + t.x.length = R.length ∧
    ((t.cu = none ∧ t.dn = [] ∧ dc = [] ∧ xc = [] ∧ t.a = 0 ∧ R = []) ∨ (t.cu = some ⟨dc.length, xc.length, 0⟩ ∧ t.a = wrap64 (sP t.dn + dc.length) ∧ R = og t.dn dD xD 0 ++ ogc (sP t.dn) dc xc))
theorem ni0 : TsI ts0 [] := ⟨[], [], [], [], rfl, rfl, rfl, rfl, rfl, rfl, .inl ⟨rfl, rfl, rfl, rfl, rfl, rfl⟩⟩
theorem ni_tk {t t' : TS} {R : List S94} {o : S94} (h : TsI t R) (ho : CanO o) (hk : tk t o = some t') : TsI t' (R ++ [o]) := by
  obtain ⟨dn, cu, d, x, a⟩ := t
  obtain ⟨f0, p, b⟩ := o
  obtain ⟨dD, dc, xD, xc, h1, h2, h3, h4, h5, h6, h7⟩ := h
  simp only at h1 h2 h3 h4 h5 h6 h7
  subst h1 h2
  unfold tk at hk
  cases f0 with
  | false =>
    have hp := ho.2 rfl
    simp only at hp
    subst hp
    rcases h7 with ⟨rfl, rfl, rfl, rfl, rfl, rfl⟩ | ⟨rfl, rfl, rfl⟩
    · simp only [Bool.false_eq_true, if_false] at hk
      cases hk
      refine ⟨dD, [], xD, [b], by simp, by simp, h3, h4, h5, ?_, .inr ⟨rfl, ?_, ?_⟩⟩
      · simp only [List.length_append, List.length_cons, List.length_nil] at h6 ⊢
        omega
      · simp [sP, wrap64]
      · have e1 : dD = [] := List.eq_nil_of_length_eq_zero (by simp only [sA] at h3; omega)
        have e2 : xD = [] := List.eq_nil_of_length_eq_zero (by simp only [sC] at h4; omega)
        subst e1 e2
        simp [og, ogc]
    · simp only [Bool.false_eq_true, if_false] at hk
      cases hk
      refine ⟨dD, dc, xD, xc ++ [b], rfl, by simp, h3, h4, h5, ?_, .inr ⟨by simp, rfl, ?_⟩⟩
      · simp only [List.length_append, List.length_cons, List.length_nil] at h6 ⊢
        omega
      · simp only
        rw [ogc_copy, List.append_assoc]
  | true =>
    have hp := ho.1 rfl
    simp only at hp
    rcases h7 with ⟨rfl, rfl, rfl, rfl, rfl, rfl⟩ | ⟨rfl, rfl, rfl⟩
    · have e1 : dD = [] := List.eq_nil_of_length_eq_zero (by simp only [sA] at h3; omega)
      have e2 : xD = [] := List.eq_nil_of_length_eq_zero (by simp only [sC] at h4; omega)
      subst e1 e2
      simp only [if_true] at hk
      by_cases hpa : p = 0
      · rw [if_pos hpa] at hk
        cases hk
        subst hpa
        exact ⟨[], [b], [], [], by simp, by simp, rfl, rfl, rfl, by simp, .inr ⟨rfl, by simp [sP], by simp [og, ogc, sP, wrap64]⟩⟩
      · rw [if_neg hpa] at hk
        by_cases hm : may ⟨0, 0, wrap64 (p - 0)⟩ = true
        · rw [if_pos hm] at hk
          cases hk
          refine ⟨[], [b], [], [], by simp, by simp, rfl, rfl, by simpa using hm, by simp, .inr ⟨rfl, ?_, ?_⟩⟩
          · simp only [List.nil_append, sP, List.length_cons, List.length_nil]
            unfold wrap64 at hp ⊢
            omega
          · simp only [List.nil_append, sP, ogc_new, og]
            have : wrap64 (0 + wrap64 (p - 0) + 0) = p := by unfold wrap64 at hp ⊢; omega
            rw [this]
            simp
        · rw [if_neg hm] at hk
          cases hk
    · simp only [if_true] at hk
      by_cases hpa : p = wrap64 (sP dn + dc.length) ∧ (xc.length : Int) = 0
      · rw [if_pos hpa] at hk
        cases hk
        have e2 : xc = [] := List.eq_nil_of_length_eq_zero (by omega)
        subst e2
        refine ⟨dD, dc ++ [b], xD, [], by simp, by simp, h3, h4, h5, ?_, .inr ⟨by simp, ?_, ?_⟩⟩
        · simp only [List.length_append, List.length_cons, List.length_nil] at h6 ⊢
          omega
        · rw [hpa.1]
          simp only [List.length_append, List.length_cons, List.length_nil]
          unfold wrap64
          omega
        · rw [ogc_add, List.append_assoc, hpa.1]
      · rw [if_neg hpa] at hk
        by_cases hm : may ⟨dc.length, xc.length, wrap64 (p - wrap64 (sP dn + dc.length))⟩ = true
        · rw [if_pos hm] at hk
          cases hk
          obtain ⟨q, hq⟩ : ∃ q, wrap64 (p - wrap64 (sP dn + dc.length)) = q := ⟨_, rfl⟩
          have hq2 : wrap64 (sP dn + (dc.length + q)) = p := by
            rw [← hq]
            unfold wrap64 at hp ⊢
            omega
          rw [hq] at hm ⊢
          have hPn : sP (dn ++ [⟨(dc.length : Int), xc.length, q⟩]) = sP dn + (dc.length + q) := by rw [sP_app]; simp [sP]
          refine ⟨dD ++ dc, [b], xD ++ xc, [], by simp, by simp, ?_, ?_, ?_, ?_, .inr ⟨rfl, ?_, ?_⟩⟩
          · simp only
            rw [sA_app, h3]
            simp [sA]
          · simp only
            rw [sC_app, h4]
            simp [sC]
          · simp only
            rw [List.all_append, h5]
            simpa using hm
          · simp only [List.length_append, List.length_cons, List.length_nil] at h6 ⊢
            omega
          · simp only [List.length_cons, List.length_nil]
            rw [hPn]
            unfold wrap64 at hq2 ⊢
            omega
          · simp only
            rw [hPn, ogc_new, hq2, og_app dn dD xD _ dc xc 0 h5 h3 h4, Int.zero_add, og_one]
        · rw [if_neg hm] at hk
          cases hk
theorem ni_tks : ∀ (L : List S94) (t t' : TS) (R : List S94), TsI t R → Can L → tks L t = some t' → TsI t' (R ++ L)
  | [], t, t', R, h, _, hk => by cases hk; simpa using h
  | o :: L, t, t', R, h, hc, hk => by
    rw [tks] at hk
    obtain ⟨u, hu, hk⟩ := Option.bind_eq_some_iff.1 hk
    have := ni_tks L u t' (R ++ [o]) (ni_tk h (hc o (List.mem_cons_self)) hu) (fun z hz => hc z (List.mem_cons_of_mem _ hz)) hk
    simpa using this
theorem ni_end {t : TS} {R : List S94} (h : TsI t R) (hR : R.length ≤ 16777216) : og t.st t.d t.x 0 = R ∧ ited t.st t.d t.x = ((R.length : Int), 0) := by
  obtain ⟨dn, cu, d, x, a⟩ := t
  obtain ⟨dD, dc, xD, xc, h1, h2, h3, h4, h5, h6, h7⟩ := h
  simp only at h1 h2 h3 h4 h5 h6 h7
  subst h1 h2
  rcases h7 with ⟨rfl, rfl, rfl, rfl, rfl, rfl⟩ | ⟨rfl, rfl, rfl⟩
  · have e1 : dD = [] := List.eq_nil_of_length_eq_zero (by simp only [sA] at h3; omega)
    have e2 : xD = [] := List.eq_nil_of_length_eq_zero (by simp only [sC] at h4; omega)
    subst e1 e2
    exact ⟨rfl, rfl⟩
  · simp only [TS.st, Option.toList]
    refine ⟨?_, ?_⟩
    · rw [og_app dn dD xD _ dc xc 0 h5 h3 h4, Int.zero_add, og_one]
    · have hl : dD.length + dc.length + (xD.length + xc.length) = (og dn dD xD 0 ++ ogc (sP dn) dc xc).length := by simpa using h6
      have hall : (dn ++ [(⟨(dc.length : Int), xc.length, 0⟩ : S80)]).all may = true := by
        rw [List.all_append, h5]
        have : may (⟨(dc.length : Int), (xc.length : Int), 0⟩ : S80) = true := (may_iff _).2 (by simp only; omega)
        simpa using this
      unfold ited
      have sA1 : sA [(⟨(dc.length : Int), xc.length, 0⟩ : S80)] = (dc.length : Int) := by simp [sA]
      have sC1 : sC [(⟨(dc.length : Int), xc.length, 0⟩ : S80)] = (xc.length : Int) := by simp [sC]
      rw [if_pos hall, sA_app, sC_app, h3, h4, sA1, sC1]
      have c1 : (dD.length : Int) + (dc.length : Int) + ((xD.length : Int) + (xc.length : Int)) ≤ 16777216 := by omega
      have c2 : (dD.length : Int) + (dc.length : Int) = ((dD ++ dc).length : Int) := by rw [List.length_append]; omega
      have c3 : (xD.length : Int) + (xc.length : Int) = ((xD ++ xc).length : Int) := by rw [List.length_append]; omega
      rw [if_pos ⟨c1, c2, c3⟩]
      refine Prod.ext ?_ rfl
      simp only
      omega
/-- The normal edit of origins that are told so. -/
theorem normOf_og {L : List S94} {S : List S80} {D X : List Int} (hc : Can L) (hl : L.length ≤ 16777216) (h : normOf L = (S, D, X, 0)) : og S D X 0 = L ∧ ited S D X = ((L.length : Int), 0) := by
  unfold normOf at h
  cases hk : tks L ts0 with
  | none => rw [hk] at h; simp [nrm] at h
  | some t =>
    rw [hk] at h
    have hn := ni_tks L ts0 t [] ni0 hc hk
    rw [List.nil_append] at hn
    have := ni_end hn hl
    simp only [nrm, Prod.mk.injEq] at h
    obtain ⟨rfl, rfl, rfl, _⟩ := h
    exact this
theorem normOf_bad {L : List S94} (h : (normOf L).2.2.2 ≠ 0) : normOf L = ([], [], [], 160) := by
  unfold normOf at h ⊢
  cases hk : tks L ts0 with
  | none => rfl
  | some t => rw [hk] at h; exact absurd rfl h
theorem cmp1_in {A : List S94} {o : S94} (h0 : o.f0 = true) (h : 0 ≤ o.f1 ∧ o.f1 < A.length) : ∃ p ∈ A, A.getD o.f1.toNat z94 = p := by
  have hlt : o.f1.toNat < A.length := by omega
  refine ⟨A[o.f1.toNat], List.getElem_mem hlt, ?_⟩
  simp [List.getD_eq_getElem?_getD, List.getElem?_eq_getElem hlt]
theorem cmp_can {A B : List S94} (hA : Can A) (hB : Can B) (hin : Inn A.length B) : Can (B.map (cmp1 A)) := by
  intro o ho
  obtain ⟨z, hz, rfl⟩ := List.mem_map.1 ho
  unfold cmp1
  by_cases h0 : z.f0 = true
  · obtain ⟨p, hp, e⟩ := cmp1_in h0 (hin z hz h0)
    rw [if_pos h0, e]
    exact hA p hp
  · rw [if_neg h0]
    exact hB z hz
theorem cmp_inn {A B : List S94} {n : Int} (hA : Inn n A) (hin : Inn A.length B) : Inn n (B.map (cmp1 A)) := by
  intro o ho h
  obtain ⟨z, hz, rfl⟩ := List.mem_map.1 ho
  unfold cmp1 at h ⊢
  by_cases h0 : z.f0 = true
  · obtain ⟨p, hp, e⟩ := cmp1_in h0 (hin z hz h0)
    rw [if_pos h0, e] at h ⊢
    exact hA p hp h
  · rw [if_neg h0] at h
    exact absurd h h0
/-- Two edits made one mean what the second one means of what the first one makes. -/
theorem cmp_ob {A B : List S94} {old : List Int} (hin : Inn A.length B) : (B.map (cmp1 A)).map (ob old) = B.map (ob (A.map (ob old))) := by
  rw [List.map_map]
  apply List.map_congr_left
  intro z hz
  simp only [Function.comp]
  unfold cmp1
  by_cases h0 : z.f0 = true
  · have hb := hin z hz h0
    have hlt : z.f1.toNat < A.length := by omega
    have hg : A.getD z.f1.toNat z94 = A[z.f1.toNat] := by simp [List.getD_eq_getElem?_getD, List.getElem?_eq_getElem hlt]
    have hr : rd (A.map (ob old)) z.f1 = ob old A[z.f1.toNat] := by simp [rd, List.getD_eq_getElem?_getD, hlt]
    rw [if_pos h0, hg]
    generalize A[z.f1.toNat] = p at hr
    unfold ob at hr ⊢
    simp only at hr ⊢
    rw [if_pos h0, hr]
    by_cases h1 : p.f0 = true
    · rw [if_pos h1, if_pos h1]; omega
    · rw [if_neg h1, if_neg h1]
  · rw [if_neg h0]
    unfold ob
    rw [if_neg h0, if_neg h0]
/-- It does not matter which two of three are made one first. -/
theorem cmp_assoc {A B C : List S94} (hB : Inn A.length B) (hC : Inn B.length C) : C.map (cmp1 (B.map (cmp1 A))) = (C.map (cmp1 B)).map (cmp1 A) := by
  rw [List.map_map]
  apply List.map_congr_left
  intro z hz
  simp only [Function.comp]
  by_cases h0 : z.f0 = true
  · have hb := hC z hz h0
    have hlt : z.f1.toNat < B.length := by omega
    have hg : B.getD z.f1.toNat z94 = B[z.f1.toNat] := by simp [List.getD_eq_getElem?_getD, List.getElem?_eq_getElem hlt]
    have hr : (B.map (cmp1 A)).getD z.f1.toNat z94 = cmp1 A B[z.f1.toNat] := by simp [List.getD_eq_getElem?_getD, hlt]
    have e1 : cmp1 (B.map (cmp1 A)) z = ⟨(cmp1 A B[z.f1.toNat]).f0, (cmp1 A B[z.f1.toNat]).f1, ((cmp1 A B[z.f1.toNat]).f2 + z.f2) % 256⟩ := by
      rw [cmp1, if_pos h0, hr]
    have e2 : cmp1 B z = ⟨B[z.f1.toNat].f0, B[z.f1.toNat].f1, (B[z.f1.toNat].f2 + z.f2) % 256⟩ := by
      rw [cmp1, if_pos h0, hg]
    rw [e1, e2]
    generalize B[z.f1.toNat] = p
    obtain ⟨p0, p1, p2⟩ := p
    cases p0 with
    | true =>
      simp only [cmp1, if_true]
      congr 1
      omega
    | false =>
      simp only [cmp1, Bool.false_eq_true, if_false]
  · have e1 : ∀ Y, cmp1 Y z = z := fun Y => by rw [cmp1, if_neg h0]
    rw [e1, e1, e1]
end Go.Proofs.Ytemlbjpefomboaa
