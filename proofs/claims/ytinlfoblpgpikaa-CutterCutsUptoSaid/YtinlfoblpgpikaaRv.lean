/- cutter: the document's Make and Cut: what they tell. -/
import Derived.Test.YtinlfoblpgpikaaRu
import Derived.Test.YtinlfoblpgpikaaF8
import Derived.Test.YtinlfoblpgpikaaGw
namespace Go.Proofs.Ytinlfoblpgpikaa
open Go.RowKit Go.Shelf Go.Proofs.YtinlfoblpgpikaaW.PrintWords Go.Proofs.YtinlfoblpgpikaaW.PrintLast Go.Proofs.YtinlfoblpgpikaaW.PrintMore Go.Proofs.Ytinlfoblpgpikaa.Pr
set_option linter.unusedVariables false
set_option linter.unusedSimpArgs false
def nxW (t : WS) : Int := if t.any = true then t.at_ else -1
theorem rd_last (A : List S81) (b : S81) : rd_T81 (A ++ [b]) (A.length : Int) = b := by
  simp [rd_T81, List.getD_eq_getElem?_getD]
theorem set_last (A : List S81) (b v : S81) : (A ++ [b]).set A.length v = A ++ [v] := by
  rw [List.set_append_right _ _ (Nat.le_refl _), Nat.sub_self]
  rfl
theorem len1 (A : List S81) (b : S81) : (A ++ [b]).length = A.length + 1 := by
  rw [List.length_append]; rfl
theorem idx1 (A : List S81) (b : S81) (h : A.length ≤ 1000000) : wrap64 (((A ++ [b]).length : Int) - 1) = (A.length : Int) := by
  rw [len1, w64 _ (by omega)]
  omega
theorem idx2 (n : Nat) (h : n ≤ 1000000) : wrap64 (wrap64 ((n : Int) + 1) - 1) = (n : Int) := by
  rw [w64 ((n : Int) + 1) (by omega), w64 _ (by omega)]
  omega
theorem nxt (i : Nat) (h : i ≤ 1000000) : wrap64 ((i : Int) + 1) = ((i + 1 : Nat) : Int) := by
  rw [w64 _ (by omega)]; omega
section
variable (k : Nat) (x4 : Int) (Y : List S127) (i : Nat) (pos : Int) (A : List S81) (d x : List Int) (p b : Int)
theorem mk_own0 (hi : i < Y.length) (hY : Y.length ≤ 1000000) (hrd : rd_T127 Y (i : Int) = ⟨true, p, b⟩) (hx : x.length ≤ 1000000) :
    sapperref17_Make.l0 (k + 1) x4 Y (Y.length : Int) i pos [] d x = sapperref17_Make.l0 k x4 Y (Y.length : Int) ((i + 1 : Nat) : Int) pos [⟨0, 1, 0⟩] d (x ++ [b]) := by
  have e0 : wrap64 (wrap64 ((([] : List S81).length : Int) + 1) - 1) = ((([] : List S81).length : Nat) : Int) := idx2 _ (by rw [List.length_nil]; omega)
  rw [sapperref17_Make.l0, if_pos (by omega), if_pos (by omega), if_pos (by omega), hrd]
  simp only
  rw [if_pos trivial]
  have z1 : (([] : List S81).length : Int) = 0 := rfl
  have z2 : ([] : List S81).length < 5864062014805 := by rw [List.length_nil]; omega
  rw [if_pos z1, if_pos z2]
  rw [Option.bind_some, e0, if_pos (by omega), len1, if_pos (by omega), if_pos (by omega), rd_last, Int.toNat_natCast, set_last, nxt i (by omega)]
  have w1 : wrap64 (0 + 1) = 1 := w64 1 (by omega)
  rw [w1]
  rfl
theorem mk_own (s : S81) (hA : A.length ≤ 100000) (hi : i < Y.length) (hY : Y.length ≤ 1000000) (hrd : rd_T127 Y (i : Int) = ⟨true, p, b⟩) (hx : x.length ≤ 1000000) :
    sapperref17_Make.l0 (k + 1) x4 Y (Y.length : Int) i pos (A ++ [s]) d x = sapperref17_Make.l0 k x4 Y (Y.length : Int) ((i + 1 : Nat) : Int) pos (A ++ [⟨s.f0, wrap64 (s.f1 + 1), s.f2⟩]) d (x ++ [b]) := by
  rw [sapperref17_Make.l0, if_pos (by omega), if_pos (by omega), if_pos (by omega), hrd]
  simp only
  rw [if_pos trivial, if_neg (by rw [len1]; omega), idx1 A s (by omega), if_pos (by omega), len1, if_pos (by omega), if_pos (by omega), rd_last, Int.toNat_natCast, set_last, nxt i (by omega)]
theorem mk_old0 (hi : i < Y.length) (hY : Y.length ≤ 1000000) (hrd : rd_T127 Y (i : Int) = ⟨false, p, b⟩) :
    sapperref17_Make.l0 (k + 1) x4 Y (Y.length : Int) i pos [] d x = sapperref17_Make.j1 k x4 ((([] : List S81).length : Nat) : Int) Y (Y.length : Int) i true pos [] d x false p b := by
  rw [sapperref17_Make.l0, if_pos (by omega), if_pos (by omega), if_pos (by omega), hrd]
  simp only
  rw [if_neg Bool.false_ne_true]
  have z1 : (([] : List S81).length : Int) = 0 := rfl
  rw [if_pos z1]
theorem mk_old (s : S81) (hA : A.length ≤ 100000) (hi : i < Y.length) (hY : Y.length ≤ 1000000) (hrd : rd_T127 Y (i : Int) = ⟨false, p, b⟩) :
    sapperref17_Make.l0 (k + 1) x4 Y (Y.length : Int) i pos (A ++ [s]) d x = sapperref17_Make.j1 k x4 (((A ++ [s]).length : Nat) : Int) Y (Y.length : Int) i (if s.f1 > 0 then true else (p != x4)) pos (A ++ [s]) d x false p b := by
  rw [sapperref17_Make.l0, if_pos (by omega), if_pos (by omega), if_pos (by omega), hrd]
  simp only
  rw [if_neg Bool.false_ne_true, if_neg (by rw [len1]; omega), idx1 A s (by omega), if_pos (by omega), if_pos (by rw [len1]; omega), rd_last]
  by_cases h : s.f1 > 0
  · rw [if_pos h, if_pos h]
  · rw [if_neg h, if_neg h]
theorem mk_new (bb : Bool) (hx4 : x4 < 0) (hA : A.length ≤ 100000) (hi : i < Y.length) (hY : Y.length ≤ 1000000) (hd : d.length ≤ 1000000) :
    sapperref17_Make.j1 (k + 1) x4 (A.length : Int) Y (Y.length : Int) i true pos A d x bb p b = sapperref17_Make.l0 k (wrap64 (p + 1)) Y (Y.length : Int) ((i + 1 : Nat) : Int) p (A ++ [⟨1, 0, 0⟩]) (d ++ [b]) x := by
  have w1 : wrap64 (0 + 1) = 1 := w64 1 (by omega)
  rw [sapperref17_Make.j1, if_pos rfl, if_pos hx4, if_pos (by omega), Option.bind_some, idx2 _ (by omega), if_pos (by omega), if_pos (by rw [len1]; omega), if_pos (by omega), rd_last, Int.toNat_natCast, set_last, nxt i (by omega), w1]
theorem mk_far (bb : Bool) (s : S81) (hx4 : 0 ≤ x4) (hA : A.length ≤ 100000) (hi : i < Y.length) (hY : Y.length ≤ 1000000) (hd : d.length ≤ 1000000) :
    sapperref17_Make.j1 (k + 1) x4 (((A ++ [s]).length : Nat) : Int) Y (Y.length : Int) i true pos (A ++ [s]) d x bb p b = sapperref17_Make.l0 k (wrap64 (p + 1)) Y (Y.length : Int) ((i + 1 : Nat) : Int) pos (A ++ [⟨s.f0, s.f1, wrap64 (p - x4)⟩] ++ [⟨1, 0, 0⟩]) (d ++ [b]) x := by
  have w1 : wrap64 (0 + 1) = 1 := w64 1 (by omega)
  have e9 : Hd (wrap64 (wrap64 (((A ++ [s]).length : Int) + 1) - 1) = (((A ++ [(⟨s.f0, s.f1, wrap64 (p - x4)⟩ : S81)]).length : Nat) : Int)) := ⟨by rw [len1, len1]; exact idx2 _ (by omega)⟩
  rw [sapperref17_Make.j1, if_pos rfl, if_neg (by omega), idx1 A s (by omega), if_pos (by omega), if_pos (by rw [len1]; omega), rd_last, Int.toNat_natCast, set_last, Option.bind_some, if_pos (by rw [len1]; omega), Option.bind_some, e9.out, if_pos (by omega), if_pos (by rw [len1 (A ++ [_])]; omega), if_pos (by omega), rd_last, Int.toNat_natCast, set_last, nxt i (by omega), w1]
theorem mk_near (bb : Bool) (s : S81) (hA : A.length ≤ 100000) (hi : i < Y.length) (hY : Y.length ≤ 1000000) (hd : d.length ≤ 1000000) :
    sapperref17_Make.j1 (k + 1) x4 (((A ++ [s]).length : Nat) : Int) Y (Y.length : Int) i false pos (A ++ [s]) d x bb p b = sapperref17_Make.l0 k (wrap64 (p + 1)) Y (Y.length : Int) ((i + 1 : Nat) : Int) pos (A ++ [⟨wrap64 (s.f0 + 1), s.f1, s.f2⟩]) (d ++ [b]) x := by
  rw [sapperref17_Make.j1, if_neg Bool.false_ne_true, idx1 A s (by omega), if_pos (by omega), if_pos (by rw [len1]; omega), if_pos (by omega), rd_last, Int.toNat_natCast, set_last, nxt i (by omega)]
end
theorem mk_step (Y : List S127) (i : Nat) (hY : Y.length ≤ 65536) (hi : i < Y.length) (t : WS) (o : S94) (hrd : rd_T127 Y (i : Int) = to127 o) (ok : WOk t) (hsz : t.sz ≤ 65536) (hat : 0 ≤ t.at_ ∧ t.at_ ≤ 16777217) (ho : 0 ≤ o.f1 ∧ o.f1 ≤ 16777216) (k : Nat) (r : Int × List S81 × List Int × List Int)
    (h : sapperref17_Make.l0 k (nxW (tkw t o)) Y (Y.length : Int) ((i + 1 : Nat) : Int) (tkw t o).pos ((tkw t o).st.map t81) (tkw t o).d (tkw t o).x = some r) :
    ∃ k', sapperref17_Make.l0 k' (nxW t) Y (Y.length : Int) i t.pos (t.st.map t81) t.d t.x = some r := by
  obtain ⟨pos, dn, cu, d, x, sz, at_, any⟩ := t
  obtain ⟨h1, h2, h3, h4, h5⟩ := ok
  simp only at h1 h2 h3 h4 h5 hsz hat
  obtain ⟨of0, p, b⟩ := o
  simp only at ho
  have hdl : d.length ≤ 1000000 := by omega
  have hxl : x.length ≤ 1000000 := by omega
  have hdn : (dn.map t81).length ≤ 100000 := by rw [List.length_map]; omega
  have hY' : Y.length ≤ 1000000 := by omega
  have hp : wrap64 (p + 1) = p + 1 := w64 _ (by omega)
  cases of0 with
  | false =>
    refine ⟨k + 1, ?_⟩
    cases cu with
    | none =>
      obtain ⟨rfl, rfl, rfl⟩ := h2 rfl
      refine (mk_own0 k _ Y i pos [] [] p b hi hY' hrd (by simp)).trans ?_
      exact h
    | some s =>
      obtain ⟨hs2, hs0, hs0', hs1, hs1'⟩ := h3 s rfl
      obtain ⟨s0, s1, s2⟩ := s
      simp only at hs2 hs0 hs0' hs1 hs1'
      subst hs2
      have hst : (WS.st ⟨pos, dn, some ⟨s0, s1, 0⟩, d, x, sz, at_, any⟩).map t81 = dn.map t81 ++ [⟨s0, s1, 0⟩] := by simp [WS.st, t81]
      rw [hst]
      refine (mk_own k _ Y i pos (dn.map t81) d x p b ⟨s0, s1, 0⟩ hdn hi hY' hrd hxl).trans ?_
      have hst2 : (tkw ⟨pos, dn, some ⟨s0, s1, 0⟩, d, x, sz, at_, any⟩ ⟨false, p, b⟩).st.map t81 = dn.map t81 ++ [⟨s0, s1 + 1, 0⟩] := by simp [tkw, WS.st, t81]
      rw [hst2] at h
      simp only
      rw [w64 (s1 + 1) (by omega)]
      exact h
  | true =>
    refine ⟨k + 2, ?_⟩
    cases cu with
    | none =>
      obtain ⟨rfl, rfl, rfl⟩ := h2 rfl
      have hany : any = false := by
        cases any with
        | false => rfl
        | true => exact absurd rfl (h1 rfl)
      subst hany
      refine (mk_old0 (k + 1) _ Y i pos [] [] p b hi hY' hrd).trans ?_
      refine (mk_new k _ Y i pos [] [] [] p b false (by show (-1 : Int) < 0; omega) (by simp) hi hY' (by simp)).trans ?_
      rw [hp]
      exact h
    | some s =>
      obtain ⟨hs2, hs0, hs0', hs1, hs1'⟩ := h3 s rfl
      obtain ⟨s0, s1, s2⟩ := s
      simp only at hs2 hs0 hs0' hs1 hs1'
      subst hs2
      have hst : (WS.st ⟨pos, dn, some ⟨s0, s1, 0⟩, d, x, sz, at_, any⟩).map t81 = dn.map t81 ++ [⟨s0, s1, 0⟩] := by simp [WS.st, t81]
      rw [hst]
      refine (mk_old (k + 1) _ Y i pos (dn.map t81) d x p b ⟨s0, s1, 0⟩ hdn hi hY' hrd).trans ?_
      cases any with
      | false =>
        have hb : (if s1 > 0 then true else (p != nxW ⟨pos, dn, some ⟨s0, s1, 0⟩, d, x, sz, at_, false⟩)) = true := by
          split
          · rfl
          · have : p ≠ -1 := by omega
            simpa [nxW] using this
        have hst2 : (tkw ⟨pos, dn, some ⟨s0, s1, 0⟩, d, x, sz, at_, false⟩ ⟨true, p, b⟩).st.map t81 = dn.map t81 ++ [⟨s0, s1, 0⟩] ++ [⟨1, 0, 0⟩] := by simp [tkw, WS.st, t81]
        rw [hst2] at h
        simp only
        rw [hb]
        refine (mk_new k _ Y i pos (dn.map t81 ++ [⟨s0, s1, 0⟩]) d x p b false (by show (-1 : Int) < 0; omega) (by rw [len1, List.length_map]; omega) hi hY' hdl).trans ?_
        rw [hp]
        exact h
      | true =>
        by_cases hg : s1 = 0 ∧ p = at_
        · obtain ⟨rfl, rfl⟩ := hg
          have hb : (if (0 : Int) > 0 then true else (p != nxW ⟨pos, dn, some ⟨s0, 0, 0⟩, d, x, sz, p, true⟩)) = false := by simp [nxW]
          have hst2 : (tkw ⟨pos, dn, some ⟨s0, 0, 0⟩, d, x, sz, p, true⟩ ⟨true, p, b⟩).st.map t81 = dn.map t81 ++ [⟨s0 + 1, 0, 0⟩] := by simp [tkw, WS.st, t81]
          rw [hst2] at h
          simp only
          rw [hb]
          refine (mk_near k _ Y i pos (dn.map t81) d x p b false ⟨s0, 0, 0⟩ hdn hi hY' hdl).trans ?_
          simp only
          rw [hp, w64 (s0 + 1) (by omega)]
          simpa [tkw, nxW] using h
        · have hb : (if s1 > 0 then true else (p != nxW ⟨pos, dn, some ⟨s0, s1, 0⟩, d, x, sz, at_, true⟩)) = true := by
            split
            · rfl
            · have : p ≠ at_ := by omega
              simpa [nxW] using this
          have hst2 : (tkw ⟨pos, dn, some ⟨s0, s1, 0⟩, d, x, sz, at_, true⟩ ⟨true, p, b⟩).st.map t81 = dn.map t81 ++ [⟨s0, s1, p - at_⟩] ++ [⟨1, 0, 0⟩] := by simp [tkw, WS.st, t81, hg]
          rw [hst2] at h
          simp only
          rw [hb]
          refine (mk_far k _ Y i pos (dn.map t81) d x p b false ⟨s0, s1, 0⟩ (by show (0 : Int) ≤ at_; omega) hdn hi hY' hdl).trans ?_
          have hnx : nxW ⟨pos, dn, some ⟨s0, s1, 0⟩, d, x, sz, at_, true⟩ = at_ := rfl
          rw [hp, hnx, w64 (p - at_) (by omega)]
          simpa [tkw, nxW, hg] using h
end Go.Proofs.Ytinlfoblpgpikaa
