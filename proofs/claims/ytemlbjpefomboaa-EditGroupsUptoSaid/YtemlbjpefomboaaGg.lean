/- edit: it does not matter which two of three edits are made one first. -/
import Derived.Test.YtemlbjpefomboaaCp
import Derived.Test.YtemlbjpefomboaaEp
import Derived.Test.YtemlbjpefomboaaOq
namespace Go.Proofs.Ytemlbjpefomboaa
open Go.RowKit Go.Shelf Go.Proofs.YtemlbjpefomboaaW.PrintWords Go.Proofs.YtemlbjpefomboaaW.PrintLast Go.Proofs.YtemlbjpefomboaaW.PrintMore Go.Proofs.Ytemlbjpefomboaa.Pr
set_option linter.unusedVariables false
set_option linter.unusedSimpArgs false
theorem equal_l0 (d : List Int) (hf : fits d) : ∀ (j i : Nat), i + j = d.length → slices_Equal_byte_byte.l0 (j + 1) d d (d.length : Int) i = some true
  | 0, i, hi => by
    rw [slices_Equal_byte_byte.l0, if_neg (by omega)]
  | j + 1, i, hi => by
    have hf' := hf
    unfold fits at hf
    rw [slices_Equal_byte_byte.l0, if_pos (by omega), if_pos (by omega), if_pos (by omega), if_pos (by omega), if_pos rfl, w64 _ (by omega), show ((i : Int) + 1) = ((i + 1 : Nat) : Int) by omega]
    exact equal_l0 d hf' j (i + 1) (by omega)
theorem equal_self (d : List Int) (hf : fits d) : slices_Equal_byte_byte.f (d.length + 1) d d = some true := by
  unfold slices_Equal_byte_byte.f
  rw [if_pos rfl]
  exact equal_l0 d hf d.length 0 (by omega)
theorem alikeE_l0 (st : List S80) (d x : List Int) (hf : fits st) (hd : fits d) (hx : fits x) : ∀ (j i : Nat), i + j = st.length → ∃ k, edit_Alike.l0 k (st.length : Int) i st d x st d x = some true
  | 0, i, hi => by
    have g1 := at_rounds (g := fun k => slices_Equal_byte_byte.f k d d) (fun k => slices_Equal_byte_byte.mono _ _ k) (show d.length + 1 ≤ d.length + x.length + 1 by omega) (equal_self d hd)
    have g2 := at_rounds (g := fun k => slices_Equal_byte_byte.f k x x) (fun k => slices_Equal_byte_byte.mono _ _ k) (show x.length + 1 ≤ d.length + x.length + 1 by omega) (equal_self x hx)
    refine ⟨d.length + x.length + 1 + 1, ?_⟩
    rw [edit_Alike.l0, if_neg (by omega), g1, Option.bind_some, if_pos rfl, g2, Option.bind_some]
  | j + 1, i, hi => by
    obtain ⟨k, hk⟩ := alikeE_l0 st d x hf hd hx j (i + 1) (by omega)
    unfold fits at hf
    refine ⟨k + 1, ?_⟩
    rw [edit_Alike.l0, if_pos (by omega), if_pos (by omega), if_pos (by omega), if_pos (by omega), if_neg (by simp), w64 _ (by omega), show ((i : Int) + 1) = ((i + 1 : Nat) : Int) by omega]
    exact hk
theorem alikeE_self (st : List S80) (d x : List Int) (hf : fits st) (hd : fits d) (hx : fits x) : ∃ k, edit_Alike.f k st d x st d x = some true := by
  obtain ⟨k, hk⟩ := alikeE_l0 st d x hf hd hx st.length 0 (by omega)
  refine ⟨k, ?_⟩
  unfold edit_Alike.f
  rw [if_pos rfl]
  exact hk
theorem composeE_norm {st : List S80} {d x : List Int} {sb : List S80} {db xb : List Int} (h1 : (ited st d x).2 = 0) (h2 : (ited sb db xb).2 = 0) (h3 : rds (ited st d x).1 sb 0 = true) : composeE st d x sb db xb = normOf ((og sb db xb 0).map (cmp1 (og st d x 0))) := by
  unfold composeE
  rw [if_neg (fun h' => h' h1), if_neg (fun h' => h' h2), if_neg (by rw [h3]; decide)]
theorem groups_f (s0 : List S80) (d0 x0 : List Int) (s1 : List S80) (d1 x1 : List Int) (s2 : List S80) (d2 x2 : List Int) (h0 : s0.length ≤ 1048576) (h1 : s1.length ≤ 1048576) (h2 : s2.length ≤ 1048576) :
    ∃ k, sapperlaw16_EditGroups.f k s0 d0 x0 s1 d1 x1 s2 d2 x2 = some true := by
  have hc : ∀ (s : List S80) (d x : List Int) (t : List S80) (e y : List Int), t.length ≤ 16777217 → edit_Compose.f s d x t e y = some (composeE s d x t e y) := by
    intro s d x t e y h
    unfold edit_Compose.f
    rw [if_pos (by omega)]
  obtain ⟨⟨S, D, X, c⟩, hq⟩ : ∃ q, composeE s0 d0 x0 s1 d1 x1 = q := ⟨_, rfl⟩
  obtain ⟨⟨T, E, Y, e⟩, hr⟩ : ∃ q, composeE s1 d1 x1 s2 d2 x2 = q := ⟨_, rfl⟩
  have hu : ∀ k, sapperlaw16_EditGroups.f k s0 d0 x0 s1 d1 x1 s2 d2 x2 = if c = 0 then sapperlaw16_EditGroups.j0 k (e != 0) s0 d0 x0 s1 d1 x1 s2 d2 x2 S D X T E Y else sapperlaw16_EditGroups.j0 k true s0 d0 x0 s1 d1 x1 s2 d2 x2 S D X T E Y := by
    intro k
    unfold sapperlaw16_EditGroups.f
    rw [hc _ _ _ _ _ _ (by omega), Option.bind_some, hq, hc _ _ _ _ _ _ (by omega), Option.bind_some, hr]
  have ht : sapperlaw16_EditGroups.j0 1 true s0 d0 x0 s1 d1 x1 s2 d2 x2 S D X T E Y = some true := by
    rw [sapperlaw16_EditGroups.j0, if_pos rfl]
    rfl
  by_cases hc0 : c = 0
  rotate_left
  · exact ⟨1, by rw [hu, if_neg hc0, ht]⟩
  by_cases he0 : e = 0
  rotate_left
  · exact ⟨1, by rw [hu, if_pos hc0, show (e != 0) = true by simpa using he0, ht]⟩
  subst hc0 he0
  obtain ⟨i1, i2, r1, n1, g1, j1, l1⟩ := composeE_ok (by omega) hq
  obtain ⟨_, i3, r2, n2, g2, j2, l2⟩ := composeE_ok (by omega) hr
  obtain ⟨⟨P, Q, R, u⟩, hp⟩ : ∃ q, composeE S D X s2 d2 x2 = q := ⟨_, rfl⟩
  obtain ⟨⟨P', Q', R', v⟩, hp'⟩ : ∃ q, composeE s0 d0 x0 T E Y = q := ⟨_, rfl⟩
  have hj : ∀ k, sapperlaw16_EditGroups.j0 (k + 1) false s0 d0 x0 s1 d1 x1 s2 d2 x2 S D X T E Y = if u = 0 then sapperlaw16_EditGroups.j1 k (v != 0) P Q R P' Q' R' else sapperlaw16_EditGroups.j1 k true P Q R P' Q' R' := by
    intro k
    rw [sapperlaw16_EditGroups.j0, if_neg (by decide), hc _ _ _ _ _ _ (by omega), Option.bind_some, hp, hc _ _ _ _ _ _ (by omega), Option.bind_some, hp']
  have ht : sapperlaw16_EditGroups.j1 1 true P Q R P' Q' R' = some true := by
    rw [sapperlaw16_EditGroups.j1, if_pos rfl]
    rfl
  by_cases hu0 : u = 0
  rotate_left
  · exact ⟨2, by rw [hu, if_pos rfl, show ((0 : Int) != 0) = false from rfl, hj, if_neg hu0, ht]⟩
  by_cases hv0 : v = 0
  rotate_left
  · exact ⟨2, by rw [hu, if_pos rfl, show ((0 : Int) != 0) = false from rfl, hj, if_pos hu0, show (v != 0) = true by simpa using hv0, ht]⟩
  subst hu0 hv0
  obtain ⟨a1, a2, a3, a4, a5, a6, a7⟩ := composeE_ok (by omega) hp
  obtain ⟨b1, b2, b3, b4, b5, b6, b7⟩ := composeE_ok (by omega) hp'
  have e1 : composeE S D X s2 d2 x2 = composeE s0 d0 x0 T E Y := by
    rw [composeE_norm a1 a2 a3, composeE_norm b1 b2 b3, g1, g2, cmp_assoc n1 n2]
  rw [hp, hp'] at e1
  obtain ⟨rfl, e2⟩ := Prod.mk.inj e1
  obtain ⟨rfl, e3⟩ := Prod.mk.inj e2
  obtain ⟨rfl, _⟩ := Prod.mk.inj e3
  have hz := ited_size a6
  obtain ⟨k, hk⟩ := alikeE_self P Q R (by unfold fits; omega) (by unfold fits; omega) (by unfold fits; omega)
  refine ⟨k + 1 + 1, ?_⟩
  rw [hu, if_pos rfl, show ((0 : Int) != 0) = false from rfl, hj, if_pos rfl, sapperlaw16_EditGroups.j1, if_neg (by decide), hk, Option.bind_some, if_pos rfl]
  rfl
theorem walk_editGroups (A0 : Option Addr) (c0 : Nat) (s0 : List S80) (A1 : Option Addr) (c1 : Nat) (d0 : List Int) (A2 : Option Addr) (c2 : Nat) (x0 : List Int) (B0 : Option Addr) (e0 : Nat) (s1 : List S80) (B1 : Option Addr) (e1 : Nat) (d1 : List Int) (B2 : Option Addr) (e2 : Nat) (x1 : List Int)
    (C0 : Option Addr) (f0 : Nat) (s2 : List S80) (C1 : Option Addr) (f1 : Nat) (d2 : List Int) (C2 : Option Addr) (f2 : Nat) (x2 : List Int) (w : World)
    (H : EdI w A0 c0 s0 A1 c1 d0 A2 c2 x0 ∧ EdI w B0 e0 s1 B1 e1 d1 B2 e2 x1 ∧ EdI w C0 f0 s2 C1 f1 d2 C2 f2 x2 ∧ s0.length + d0.length + x0.length + (s1.length + d1.length + x1.length) + (s2.length + d2.length + x2.length) ≤ 1048576) :
    Calls Try.prog 17 #[.agg #[.slice A0 s0.length c0, .slice A1 d0.length c1, .slice A2 x0.length c2, .slice B0 s1.length e0, .slice B1 d1.length e1, .slice B2 x1.length e2, .slice C0 s2.length f0, .slice C1 d2.length f1, .slice C2 x2.length f2]] w fun e w' => e = .returned (.bool true) ∧ Below w.heap.size w w' := by
  obtain ⟨⟨hA, _, _, _⟩, ⟨hB, _, _, _⟩, ⟨hC, _, _, _⟩, hl⟩ := H
  obtain ⟨k, hk⟩ := groups_f s0 d0 x0 s1 d1 x1 s2 d2 x2 (by omega) (by omega) (by omega)
  exact sapperlaw16_EditGroups.calls k A0 c0 s0 A1 c1 d0 A2 c2 x0 B0 e0 s1 B1 e1 d1 B2 e2 x1 C0 f0 s2 C1 f1 d2 C2 f2 x2 true w hA.s hA.hs hA.di hA.hd hA.ex hA.hx hB.s hB.hs hB.di hB.hd hB.ex hB.hx hC.s hC.hs hC.di hC.hd hC.ex hC.hx hk
end Go.Proofs.Ytemlbjpefomboaa
