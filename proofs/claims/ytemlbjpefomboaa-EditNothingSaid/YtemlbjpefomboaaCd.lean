/- edit: what changes nothing, ahead of an edit or behind it, plainly and by contract. -/
import Derived.Test.YtemlbjpefomboaaCb
import Derived.Test.YtemlbjpefomboaaCc
import Derived.Test.YtemlbjpefomboaaEi
import Derived.Test.YtemlbjpefomboaaTl
namespace Go.Proofs.Ytemlbjpefomboaa
open Go.RowKit Go.Shelf Go.Proofs.YtemlbjpefomboaaW.PrintWords Go.Proofs.YtemlbjpefomboaaW.PrintLast Go.Proofs.YtemlbjpefomboaaW.PrintMore Go.Proofs.Ytemlbjpefomboaa.Pr
set_option linter.unusedVariables false
set_option linter.unusedSimpArgs false
def nS (n : Nat) : List S80 := [⟨n, 0, 0⟩]
def nD (n : Nat) : List Int := List.replicate n 0
def nN (n : Nat) : List S94 := (List.range n).map (fun (i : Nat) => (⟨true, (i : Int), 0⟩ : S94))
theorem nothing_ited {n : Nat} (h : n ≤ 16777216) : ited (nS n) (nD n) [] = ((n : Int), 0) := by
  have hm : (nS n).all may = true := by
    simp only [nS, List.all_cons, List.all_nil, Bool.and_true]
    exact (may_iff _).2 (by simp only; omega)
  unfold ited
  rw [if_pos hm, if_pos (by simp [nS, nD, sA, sC]; omega)]
  simp [nS, sA, sC]
theorem nothing_og {n : Nat} (h : n ≤ 16777216) : og (nS n) (nD n) [] 0 = nN n := by
  unfold nS nN
  simp only [og, List.take_nil, List.map_nil, List.append_nil, Int.toNat_natCast]
  apply List.map_congr_left
  intro i hi
  have := List.mem_range.1 hi
  rw [w64 _ (by omega), Int.zero_add, nD, List.getD_eq_getElem?_getD, List.getElem?_replicate, if_pos this]
  rfl
theorem nothing_rds {n m : Nat} (hn : n ≤ 16777216) (h : n ≤ m) : rds m (nS n) 0 = true := by
  unfold nS
  rw [rds, if_neg ?_, rds]
  simp only
  rw [w64 _ (by omega), w64 _ (by omega)]
  omega
theorem nothing_inn {n : Nat} (h : n ≤ 16777216) (m : Int) (hm : rds m (nS n) 0 = true) : Inn m (nN n) := by
  intro o ho _
  obtain ⟨i, hi, rfl⟩ := List.mem_map.1 ho
  have := List.mem_range.1 hi
  unfold nS at hm
  rw [rds] at hm
  simp only at hm
  rw [w64 _ (by omega), w64 _ (by omega)] at hm
  simp only
  by_cases hc : 0 < (n : Int) ∧ ((0 : Int) < 0 ∨ m < 0 + (n : Int))
  · rw [if_pos hc] at hm; cases hm
  · omega
def Byt (l : List Int) : Prop := ∀ b ∈ l, 0 ≤ b ∧ b ≤ 255
theorem getD_byt {l : List Int} (h : Byt l) (i : Nat) : 0 ≤ l.getD i 0 ∧ l.getD i 0 ≤ 255 := by
  rw [List.getD_eq_getElem?_getD]
  cases hi : l[i]? with
  | none => simp
  | some b => exact h b (List.mem_of_getElem? hi)
theorem og_byt : ∀ (st : List S80) (d x : List Int) (a : Int), Byt d → Byt x → ∀ o ∈ og st d x a, 0 ≤ o.f2 ∧ o.f2 ≤ 255
  | [], _, _, _, _, _, o, ho => by simp [og] at ho
  | s :: l, d, x, a, hd, hx, o, ho => by
    rw [og] at ho
    rcases List.mem_append.1 ho with ho | ho
    · obtain ⟨i, _, rfl⟩ := List.mem_map.1 ho
      exact getD_byt hd i
    · rcases List.mem_append.1 ho with ho | ho
      · obtain ⟨b, hb, rfl⟩ := List.mem_map.1 ho
        exact hx b (List.mem_of_mem_take hb)
      · exact og_byt l _ _ _ (fun b hb => hd b (List.mem_of_mem_drop hb)) (fun b hb => hx b (List.mem_of_mem_drop hb)) o ho
theorem cmp_behind {A : List S94} (h : ∀ o ∈ A, 0 ≤ o.f2 ∧ o.f2 ≤ 255) : (nN A.length).map (cmp1 A) = A := by
  apply List.ext_getElem?
  intro i
  unfold nN
  rw [List.map_map, List.getElem?_map]
  by_cases hi : i < A.length
  · rw [List.getElem?_range hi, Option.map_some, List.getElem?_eq_getElem hi]
    have hm := h _ (List.getElem_mem hi)
    have hr : A.getD (i : Int).toNat z94 = A[i] := by simp [List.getD_eq_getElem?_getD, List.getElem?_eq_getElem hi]
    simp only [Function.comp, cmp1, if_true]
    rw [hr, Int.add_zero, Int.emod_eq_of_lt hm.1 (by omega)]
  · rw [List.getElem?_eq_none (by simpa using hi), List.getElem?_eq_none (by omega)]
    rfl
theorem cmp_ahead {n : Nat} {A : List S94} (h : ∀ o ∈ A, 0 ≤ o.f2 ∧ o.f2 ≤ 255) (hin : Inn n A) : A.map (cmp1 (nN n)) = A := by
  have : ∀ o ∈ A, cmp1 (nN n) o = id o := by
    intro o ho
    have hb := h o ho
    unfold cmp1
    by_cases hf : o.f0 = true
    · have hi := hin o ho hf
      have hr : (nN n).getD o.f1.toNat z94 = ⟨true, o.f1, 0⟩ := by
        unfold nN
        rw [List.getD_eq_getElem?_getD, List.getElem?_map, List.getElem?_range (by omega), Option.map_some, Option.getD_some, Int.toNat_of_nonneg hi.1]
      rw [if_pos hf, hr]
      simp only
      rw [Int.zero_add, Int.emod_eq_of_lt hb.1 (by omega)]
      obtain ⟨f0, f1, f2⟩ := o
      simp only at hf
      subst hf
      rfl
    · rw [if_neg hf]
      rfl
  rw [List.map_congr_left this, List.map_id]
theorem compose_behind {st : List S80} {d x : List Int} {S : List S80} {D X : List Int} (hd : Byt d) (hx : Byt x) (hok : (ited st d x).2 = 0) {n : Nat} (hn : ((n : Nat) : Int) = (ited st d x).1) (h : normOf (og st d x 0) = (S, D, X, 0)) :
    composeE st d x (nS n) (nD n) [] = (S, D, X, 0) := by
  have hl := og_ited hok
  have hf := og_fit hok
  have hn' : n = (og st d x 0).length := by omega
  have h24 : n ≤ 16777216 := by omega
  unfold composeE
  rw [if_neg (show ¬ (ited st d x).2 ≠ 0 from fun h => h hok), if_neg (show ¬ (ited (nS n) (nD n) []).2 ≠ 0 by rw [nothing_ited h24]; simp), if_neg (show ¬ rds (ited st d x).1 (nS n) 0 = false by rw [← hn, nothing_rds h24 (Nat.le_refl _)]; simp), nothing_og h24, hn', cmp_behind (og_byt st d x 0 hd hx)]
  exact h
theorem compose_ahead {st : List S80} {d x : List Int} {S : List S80} {D X : List Int} (hd : Byt d) (hx : Byt x) (hok : (ited st d x).2 = 0) {n : Nat} (hn : n ≤ 16777216) (hr : rds n st 0 = true) (hm : Mid (og st d x 0)) (h : normOf (og st d x 0) = (S, D, X, 0)) :
    composeE (nS n) (nD n) [] st d x = (S, D, X, 0) := by
  have hin := (rds_inn n st d x 0 (ited_all hok).1 hm).1 hr
  unfold composeE
  rw [if_neg (show ¬ (ited (nS n) (nD n) []).2 ≠ 0 by rw [nothing_ited hn]; simp), if_neg (show ¬ (ited st d x).2 ≠ 0 from fun h => h hok), if_neg (show ¬ rds (ited (nS n) (nD n) []).1 st 0 = false by rw [nothing_ited hn, hr]; simp), nothing_og hn, cmp_ahead (og_byt st d x 0 hd hx) hin]
  exact h
theorem nothing_m {n : Nat} (hn : n ≤ 16777216) {sn : List S80} {dn xn : List Int} (h1 : nS n = sn) (h2 : nD n = dn) (h3 : [] = xn) (w : World) :
    Calls Try.prog 48 #[.int .i64 (n : Int)] w fun e w' => ∃ B0 b0 B1 b1 B2 b2, e = .returned (.agg #[.slice B0 sn.length b0, .slice B1 dn.length b1, .slice B2 xn.length b2]) ∧ EdC w' B0 b0 sn B1 b1 dn B2 b2 xn ∧ Below w.heap.size w w' := by
  have h := sapperlaw16_nothing.calls (n : Int) sn dn xn w (by
    unfold sapperlaw16_nothing.f
    rw [if_pos (by omega), if_pos (by simp only [Int.toNat_natCast]; omega), Int.toNat_natCast, ← h1, ← h2, ← h3]
    rfl)
  refine h.mono ?_
  rintro e w' ⟨v0, v1, v2, rfl, r0, r1, r2, hb⟩
  obtain ⟨B0, b0, rfl⟩ := Kd.R_slice r0
  obtain ⟨B1, b1, rfl⟩ := Kd.R_slice r1
  obtain ⟨B2, b2, rfl⟩ := Kd.R_slice r2
  exact ⟨B0, b0, B1, b1, B2, b2, rfl, ⟨(Kd.R_reads' r0).2.2, (Kd.R_reads' r1).2.2, (Kd.R_reads' r2).2.2, (Kd.R_reads' r0).2.1, (Kd.R_reads' r1).2.1, (Kd.R_reads' r2).2.1⟩, hb⟩
theorem compose_m {A0 : Option Addr} {c0 : Nat} {st : List S80} {A1 : Option Addr} {c1 : Nat} {d : List Int} {A2 : Option Addr} {c2 : Nat} {x : List Int} {D0 : Option Addr} {g0 : Nat} {sb : List S80} {D1 : Option Addr} {g1 : Nat} {db : List Int} {D2 : Option Addr} {g2 : Nat} {xb : List Int} {w : World} {S : List S80} {D X : List Int} {er : Int}
    (hE : EdC w A0 c0 st A1 c1 d A2 c2 x) (hG : EdC w D0 g0 sb D1 g1 db D2 g2 xb) (hf : ∀ n : Int, sb.all may = true → rds n sb 0 = true → Inn n (og sb db xb 0)) (hr : composeE st d x sb db xb = (S, D, X, er)) :
    Calls Try.prog 45 #[.agg #[.slice A0 st.length c0, .slice A1 d.length c1, .slice A2 x.length c2], .agg #[.slice D0 sb.length g0, .slice D1 db.length g1, .slice D2 xb.length g2]] w fun e w' => ∃ B0 b0 B1 b1 B2 b2, e = .returned (.tuple #[.agg #[.slice B0 S.length b0, .slice B1 D.length b1, .slice B2 X.length b2], .int .i64 er]) ∧ EdC w' B0 b0 S B1 b1 D B2 b2 X ∧ Below w.heap.size w w' := by
  have h := compose_cm hE hG hf
  unfold EdV at h
  rw [hr] at h
  refine h.mono ?_
  intro e w' h
  obtain ⟨B0, b0, B1, b1, B2, b2, he, h3, hb⟩ := h.ed3
  exact ⟨B0, b0, B1, b1, B2, b2, he, h3.edc, hb⟩
theorem size_m {A0 : Option Addr} {c0 : Nat} {st : List S80} {A1 : Option Addr} {c1 : Nat} {d : List Int} {A2 : Option Addr} {c2 : Nat} {x : List Int} {w : World} {n g : Int} (h : EdC w A0 c0 st A1 c1 d A2 c2 x) (hn : (ited st d x).1 = n) (hg : (ited st d x).2 = g) :
    Calls Try.prog 29 #[.agg #[.slice A0 st.length c0, .slice A1 d.length c1, .slice A2 x.length c2]] w fun e w' => e = .returned (.tuple #[.int .i64 n, .int .i64 g]) ∧ Below w.heap.size w w' := by
  have := size_c h
  unfold EdV at this
  rw [hn, hg] at this
  exact this
end Go.Proofs.Ytemlbjpefomboaa
