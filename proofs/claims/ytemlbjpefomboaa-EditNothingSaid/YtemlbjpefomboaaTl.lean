/- edit: what Tell, Check and Size reckon. -/
import Derived.Test.YtemlbjpefomboaaE6
import Derived.Test.YtemlbjpefomboaaE9
import Derived.Test.YtemlbjpefomboaaRc
namespace Go.Proofs.Ytemlbjpefomboaa
open Go.RowKit Go.Shelf Go.Proofs.YtemlbjpefomboaaW.PrintWords Go.Proofs.YtemlbjpefomboaaW.PrintLast Go.Proofs.YtemlbjpefomboaaW.PrintMore Go.Proofs.Ytemlbjpefomboaa.Pr
set_option linter.unusedVariables false
set_option linter.unusedSimpArgs false
def zeros : List Int → Int
  | [] => 0
  | b :: l => (if b = 0 then 1 else 0) + zeros l
theorem zeros_nn : ∀ l : List Int, 0 ≤ zeros l ∧ zeros l ≤ l.length
  | [] => by simp [zeros]
  | b :: l => by
    have := zeros_nn l
    simp only [zeros, List.length_cons]
    split <;> omega
/-- How far reading goes, reckoned without bounds. -/
structure Tl where
  bl : Bool
  j : Int
  r : Int
def tl : List S80 → Int → Tl → Tl
  | [], _, t => t
  | s :: l, a, t => tl l (a + s.f0 + s.f2) ⟨if 0 < s.f0 then t.bl || decide (a < 0) else t.bl, t.j + (if s.f2 < -s.f2 then -s.f2 else s.f2), if 0 < s.f0 then (if t.r < a + s.f0 then a + s.f0 else t.r) else t.r⟩
theorem tl_le : ∀ (st : List S80) (a : Int) (t : Tl), t.j ≤ (tl st a t).j ∧ t.r ≤ (tl st a t).r
  | [], _, _ => ⟨Int.le_refl _, Int.le_refl _⟩
  | s :: l, a, t => by
    have := tl_le l (a + s.f0 + s.f2) ⟨if 0 < s.f0 then t.bl || decide (a < 0) else t.bl, t.j + (if s.f2 < -s.f2 then -s.f2 else s.f2), if 0 < s.f0 then (if t.r < a + s.f0 then a + s.f0 else t.r) else t.r⟩
    simp only at this
    rw [tl]
    constructor
    · refine Int.le_trans ?_ this.1
      split <;> omega
    · refine Int.le_trans ?_ this.2
      split
      · split <;> omega
      · omega
theorem tl_rdx (old : Int) : ∀ (st : List S80) (a : Int) (t : Tl), rdx old st a = true → (tl st a t).bl = t.bl ∧ (t.r ≤ old → (tl st a t).r ≤ old)
  | [], _, _, _ => ⟨rfl, fun h => h⟩
  | s :: l, a, t, h => by
    rw [rdx] at h
    by_cases hc : 0 < s.f0 ∧ (a < 0 ∨ old < a + s.f0)
    · rw [if_pos hc] at h; cases h
    · rw [if_neg hc] at h
      have := tl_rdx old l _ ⟨if 0 < s.f0 then t.bl || decide (a < 0) else t.bl, t.j + (if s.f2 < -s.f2 then -s.f2 else s.f2), if 0 < s.f0 then (if t.r < a + s.f0 then a + s.f0 else t.r) else t.r⟩ h
      rw [tl]
      simp only at this
      refine ⟨this.1.trans ?_, fun hr => this.2 ?_⟩
      · split
        · rw [decide_eq_false (by omega)]
          simp
        · rfl
      · split
        · split <;> omega
        · omega
theorem rdx_iff (old : Int) : ∀ (st : List S80) (a : Int) (t : Tl), rdx old st a = true → ∀ old', t.r ≤ old' → (rdx old' st a = true ↔ (tl st a t).r ≤ old')
  | [], _, _, _, old', h => by simp [rdx, tl, h]
  | s :: l, a, t, h, old', hr => by
    rw [rdx] at h ⊢
    by_cases hc : 0 < s.f0 ∧ (a < 0 ∨ old < a + s.f0)
    · rw [if_pos hc] at h; cases h
    · rw [if_neg hc] at h
      rw [tl]
      by_cases h0 : 0 < s.f0
      · by_cases h1 : old' < a + s.f0
        · rw [if_pos ⟨h0, .inr h1⟩]
          have := (tl_le l (a + s.f0 + s.f2) ⟨if 0 < s.f0 then t.bl || decide (a < 0) else t.bl, t.j + (if s.f2 < -s.f2 then -s.f2 else s.f2), if 0 < s.f0 then (if t.r < a + s.f0 then a + s.f0 else t.r) else t.r⟩).2
          simp only [if_pos h0] at this ⊢
          constructor
          · intro h; cases h
          · intro h
            exfalso
            have hq : a + s.f0 ≤ (if t.r < a + s.f0 then a + s.f0 else t.r) := by split <;> omega
            omega
        · rw [if_neg (by omega)]
          refine rdx_iff old l _ _ h old' ?_
          simp only [if_pos h0]
          split <;> omega
      · rw [if_neg (fun h => h0 h.1)]
        refine rdx_iff old l _ _ h old' ?_
        simp only [if_neg h0]
        exact hr
def toldOf (st : List S80) : Tl := tl st 0 ⟨false, 0, 0⟩
theorem tell_l1 (st : List S80) (hst : st.all may = true) (hf : st.length ≤ 1048576) (n0 n1 n2 n3 : Int) : ∀ (j i : Nat) (a : Int) (t : Tl), i + j = st.length → -(33554432 * i) ≤ a → a ≤ 33554432 * i → 0 ≤ t.j → t.j ≤ 33554432 * i → 0 ≤ t.r → t.r ≤ 33554432 * (i + 1) →
    edit_Tell.l1 (j + 1) a t.bl st (st.length : Int) i n0 n1 n2 n3 t.j t.r = some (n0, n1, n2, n3, (tl (st.drop i) a t).j, (if (tl (st.drop i) a t).bl then 0 else (tl (st.drop i) a t).r), 0)
  | 0, i, a, t, hi, _, _, _, _, _, _ => by
    obtain rfl : i = st.length := by omega
    rw [edit_Tell.l1, if_neg (by omega), List.drop_length, tl]
    cases t.bl <;> rfl
  | j + 1, i, a, t, hi, h1, h2, h3, h4, h5, h6 => by
    have hlt : i < st.length := by omega
    have hd := drop_rd st i hlt
    have hall := all_drop hst i
    rw [hd, List.all_cons, Bool.and_eq_true] at hall
    have hm := (may_iff _).1 hall.1
    rw [edit_Tell.l1, if_pos (by omega), if_pos (by omega), if_pos (by omega), hd, tl]
    obtain ⟨⟨f0, f1, f2⟩, hs⟩ : ∃ s, rd_T80 st i = s := ⟨_, rfl⟩
    rw [hs] at hm ⊢
    simp only at hm ⊢
    rw [w64 (f0 + f2) (by omega), w64 (a + (f0 + f2)) (by omega), w64 (a + f0) (by omega), w64 (-f2) (by omega), w64 ((i : Int) + 1) (by omega)]
    have e1 : mx f2 (-f2) = if f2 < -f2 then -f2 else f2 := rfl
    have e2 : mx t.r (a + f0) = if t.r < a + f0 then a + f0 else t.r := rfl
    rw [e1, e2]
    obtain ⟨g, hg⟩ : ∃ g, (if f2 < -f2 then -f2 else f2) = g := ⟨_, rfl⟩
    have hg2 : 0 ≤ g ∧ g ≤ 16777216 := by rw [← hg]; split <;> omega
    obtain ⟨q, hq⟩ : ∃ q, (if t.r < a + f0 then a + f0 else t.r) = q := ⟨_, rfl⟩
    have hq2 : 0 ≤ q ∧ q ≤ 33554432 * ((i : Int) + 1 + 1) := by rw [← hq]; split <;> omega
    rw [hg, hq, w64 (t.j + g) (by omega), show ((i : Int) + 1) = ((i + 1 : Nat) : Int) by omega, show a + (f0 + f2) = a + f0 + f2 by omega]
    by_cases h0 : f0 > 0
    · rw [if_pos h0, if_pos h0, if_pos h0]
      have ih := tell_l1 st hst hf n0 n1 n2 n3 j (i + 1) (a + f0 + f2) ⟨t.bl || decide (a < 0), t.j + g, q⟩ (by omega) (by omega) (by omega) (by simp only; omega) (by simp only; omega) (by simp only; omega) (by simp only; omega)
      simp only at ih
      cases hb : t.bl with
      | true => rw [if_pos rfl]; rw [hb] at ih; exact ih
      | false => rw [if_neg (by decide)]; rw [hb] at ih; exact ih
    · rw [if_neg h0, if_neg h0, if_neg h0]
      have ih := tell_l1 st hst hf n0 n1 n2 n3 j (i + 1) (a + f0 + f2) ⟨t.bl, t.j + g, t.r⟩ (by omega) (by omega) (by omega) (by simp only; omega) (by simp only; omega) h5 (by simp only; omega)
      exact ih
theorem tell_l0 (st : List S80) (d x : List Int) (hst : st.all may = true) (hf : st.length ≤ 1048576) (hd : d.length ≤ 1048576) (n0 n1 n3 : Int) : ∀ (j i : Nat) (z : Int), i + j = d.length → 0 ≤ z → z ≤ i →
    edit_Tell.l0 (st.length + 2 + j) d (d.length : Int) i st d x n0 n1 z n3 0 0 = some (n0, n1, z + zeros (d.drop i), n3, (toldOf st).j, (if (toldOf st).bl then 0 else (toldOf st).r), 0)
  | 0, i, z, hi, h0, h1 => by
    obtain rfl : i = d.length := by omega
    rw [List.drop_length, show st.length + 2 + 0 = st.length + 1 + 1 by omega, edit_Tell.l0, if_neg (by omega)]
    have := tell_l1 st hst hf n0 n1 z n3 st.length 0 0 ⟨false, 0, 0⟩ (by omega) (by omega) (by omega) (by simp) (by simp) (by simp) (by simp)
    simp only [List.drop_zero] at this
    simp only [zeros, Int.add_zero]
    exact this
  | j + 1, i, z, hi, h0, h1 => by
    have hlt : i < d.length := by omega
    have hdr : d.drop i = rd d i :: d.drop (i + 1) := by
      rw [List.drop_eq_getElem_cons hlt]
      congr 1
      simp [rd, List.getD_eq_getElem?_getD, List.getElem?_eq_getElem hlt]
    rw [show st.length + 2 + (j + 1) = (st.length + 2 + j) + 1 by omega, edit_Tell.l0, if_pos (by omega), if_pos (by omega), if_pos (by omega), hdr, zeros, w64 ((i : Int) + 1) (by omega), w64 (z + 1) (by omega), show ((i : Int) + 1) = ((i + 1 : Nat) : Int) by omega]
    by_cases hz : rd d i = 0
    · rw [if_pos hz, if_pos hz, tell_l0 st d x hst hf hd n0 n1 n3 j (i + 1) (z + 1) (by omega) (by omega) (by omega), Int.add_assoc]
    · rw [if_neg hz, if_neg hz, tell_l0 st d x hst hf hd n0 n1 n3 j (i + 1) z (by omega) (by omega) (by omega), Int.zero_add]
def told (st : List S80) (d x : List Int) : Int × Int × Int × Int × Int × Int × Int :=
  if (ited st d x).2 = 0 then ((st.length : Int), (d.length : Int), zeros d, (x.length : Int), (toldOf st).j, (if (toldOf st).bl then 0 else (toldOf st).r), 0) else (0, 0, 0, 0, 0, 0, (ited st d x).2)
theorem tell_f (st : List S80) (d x : List Int) (hf : st.length ≤ 1048576) (hd : d.length ≤ 1048576) : ∃ k, edit_Tell.f k st d x = some (told st d x) := by
  obtain ⟨k0, hk0⟩ := itself_f st d x (by unfold fits; omega)
  refine ⟨k0 + (st.length + 2 + d.length), ?_⟩
  unfold edit_Tell.f told
  rw [itself_mono st d x (Nat.le_add_right _ _) hk0, Option.bind_some]
  by_cases h : (ited st d x).2 = 0
  · rw [if_pos h, if_pos h]
    have := tell_l0 st d x (ited_all h).1 hf hd st.length d.length x.length d.length 0 0 (by omega) (by omega) (by omega)
    simp only [List.drop_zero, Int.zero_add] at this
    exact at_rounds (g := fun k => edit_Tell.l0 k d (d.length : Int) ((0 : Nat) : Int) st d x st.length d.length 0 x.length 0 0) (fun k => (edit_Tell.mono_l k).1 _ _ _ _ _ _ _ _ _ _ _ _) (Nat.le_add_left _ _) this
  · rw [if_neg h, if_neg h]
theorem tell_c {A0 : Option Addr} {c0 : Nat} {st : List S80} {A1 : Option Addr} {c1 : Nat} {d : List Int} {A2 : Option Addr} {c2 : Nat} {x : List Int} {w : World} (h : EdC w A0 c0 st A1 c1 d A2 c2 x) (hf : st.length ≤ 1048576) (hd : d.length ≤ 1048576) :
    Calls Try.prog 34 #[EdV A0 st.length c0 A1 d.length c1 A2 x.length c2] w fun e w' => e = .returned (.tuple #[.agg #[.int .i64 (told st d x).1, .int .i64 (told st d x).2.1, .int .i64 (told st d x).2.2.1, .int .i64 (told st d x).2.2.2.1, .int .i64 (told st d x).2.2.2.2.1, .int .i64 (told st d x).2.2.2.2.2.1], .int .i64 (told st d x).2.2.2.2.2.2]) ∧ Below w.heap.size w w' := by
  obtain ⟨k, hk⟩ := tell_f st d x hf hd
  exact edit_Tell.calls k A0 c0 st A1 c1 d A2 c2 x _ _ _ _ _ _ _ w h.s h.hs h.di h.hd h.ex h.hx hk
theorem size_c {A0 : Option Addr} {c0 : Nat} {st : List S80} {A1 : Option Addr} {c1 : Nat} {d : List Int} {A2 : Option Addr} {c2 : Nat} {x : List Int} {w : World} (h : EdC w A0 c0 st A1 c1 d A2 c2 x) :
    Calls Try.prog 29 #[EdV A0 st.length c0 A1 d.length c1 A2 x.length c2] w fun e w' => e = .returned (.tuple #[.int .i64 (ited st d x).1, .int .i64 (ited st d x).2]) ∧ Below w.heap.size w w' := by
  obtain ⟨k, hk⟩ := itself_f st d x h.s.2.1
  exact edit_Size.calls k A0 c0 st A1 c1 d A2 c2 x _ _ w h.s h.hs h.di h.hd h.ex h.hx (by unfold edit_Size.f; rw [hk]; rfl)
def checked (st : List S80) (d x : List Int) (old size : Int) : Int :=
  if ¬ (0 ≤ old ∧ old ≤ 16777216 ∧ 0 ≤ size ∧ size ≤ 16777216) then 1 else if (ited st d x).2 ≠ 0 then (ited st d x).2 else if (ited st d x).1 ≠ size then 162 else if rds old st 0 = true then 0 else 161
theorem within_f (a lo hi : Int) : edit_within.f a lo hi = some (decide (lo ≤ a ∧ a ≤ hi)) := by
  unfold edit_within.f
  by_cases h : lo ≤ a <;> simp [h]
theorem check_f (st : List S80) (d x : List Int) (old size : Int) (hf : fits st) : ∃ k, edit_Check.f k st d x old size = some (checked st d x old size) := by
  obtain ⟨k0, hk0⟩ := itself_f st d x hf
  obtain ⟨k1, hk1⟩ := reads_f st old hf
  refine ⟨k0 + k1 + 1, ?_⟩
  have h0 := itself_mono st d x (show k0 ≤ k0 + k1 by omega) hk0
  have h1 : edit_reads.f (k0 + k1) st old = some (rds old st 0) := at_rounds (g := fun k => edit_reads.f k st old) (fun k => edit_reads.mono st old k) (by omega) hk1
  unfold edit_Check.f checked
  rw [within_f, Option.bind_some, within_f]
  by_cases ho : 0 ≤ old ∧ old ≤ 16777216
  · rw [decide_eq_true ho, if_pos rfl, Option.bind_some]
    by_cases hs : 0 ≤ size ∧ size ≤ 16777216
    · rw [decide_eq_true hs, if_neg (by omega), edit_Check.j0, Bool.not_true, if_neg (by decide), h0, Option.bind_some, h1]
      by_cases h2 : (ited st d x).2 = 0
      · by_cases h3 : (ited st d x).1 = size
        · cases hr : rds old st 0 <;> simp [h2, h3, hr]
        · simp [h2, h3]
      · simp [h2]
    · rw [decide_eq_false hs, if_pos (by omega), edit_Check.j0]
      rfl
  · rw [decide_eq_false ho, if_neg (by decide), if_pos (by omega), edit_Check.j0]
    rfl
theorem check_c {A0 : Option Addr} {c0 : Nat} {st : List S80} {A1 : Option Addr} {c1 : Nat} {d : List Int} {A2 : Option Addr} {c2 : Nat} {x : List Int} {w : World} (old size : Int) (h : EdC w A0 c0 st A1 c1 d A2 c2 x) :
    Calls Try.prog 28 #[EdV A0 st.length c0 A1 d.length c1 A2 x.length c2, .int .i64 old, .int .i64 size] w fun e w' => e = .returned (.int .i64 (checked st d x old size)) ∧ Below w.heap.size w w' := by
  obtain ⟨k, hk⟩ := check_f st d x old size h.s.2.1
  exact edit_Check.calls k A0 c0 st A1 c1 d A2 c2 x _ _ _ w h.s h.hs h.di h.hd h.ex h.hx hk
end Go.Proofs.Ytemlbjpefomboaa
