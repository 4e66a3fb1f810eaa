/- edit: two edits made one lead where both lead. -/
import Derived.Test.YtemlbjpefomboaaCp
import Derived.Test.YtemlbjpefomboaaEo
import Derived.Test.YtemlbjpefomboaaOe
namespace Go.Proofs.Ytemlbjpefomboaa
open Go.RowKit Go.Shelf Go.Proofs.YtemlbjpefomboaaW.PrintWords Go.Proofs.YtemlbjpefomboaaW.PrintLast Go.Proofs.YtemlbjpefomboaaW.PrintMore Go.Proofs.Ytemlbjpefomboaa.Pr
set_option linter.unusedVariables false
set_option linter.unusedSimpArgs false
theorem chain_f (old : List Int) (st : List S80) (d x : List Int) (sb : List S80) (db xb : List Int) (hf : st.length ≤ 1048576) (hfb : sb.length ≤ 1048576) : sapperlaw16_EditChain.f old st d x sb db xb = some true := by
  have hc : edit_Compose.f st d x sb db xb = some (composeE st d x sb db xb) := by
    unfold edit_Compose.f
    rw [if_pos (by omega)]
  have ha : ∀ (o : List Int) (s : List S80) (d x : List Int), s.length ≤ 16777217 → edit_Apply.f o s d x = some (applied o s d x, appliedE o s d x) := by
    intro o s d x h
    unfold edit_Apply.f
    rw [if_pos (by omega)]
  obtain ⟨⟨S, D, X, c⟩, hq⟩ : ∃ q, composeE st d x sb db xb = q := ⟨_, rfl⟩
  unfold sapperlaw16_EditChain.f
  rw [hc, Option.bind_some, hq]
  simp only
  by_cases h0 : c = 0
  rotate_left
  · have hb := composeE_bad (st := st) (d := d) (x := x) (sb := sb) (db := db) (xb := xb) (by rw [hq]; exact h0)
    rw [hq] at hb
    simp only at hb
    rw [if_neg h0, hb, if_pos (by simp)]
    rfl
  subst h0
  rw [if_pos rfl]
  obtain ⟨i1, i2, hr, hin, hog, i3, hs⟩ := composeE_ok (by omega) hq
  rw [ha old st d x (by omega), Option.bind_some]
  by_cases h1 : appliedE old st d x = 0
  rotate_left
  · rw [if_neg h1]
    rfl
  rw [if_pos h1]
  obtain ⟨k1, _, k3⟩ := appliedE_ok h1
  have hI1 := inn_applied2 (by omega) h1
  have hmid := applied_ok h1
  have hml : ((applied old st d x).length : Int) = (ited st d x).1 := by rw [hmid, List.length_map]; exact og_ited i1
  have hfit := og_fit i1
  have h2 : appliedE (applied old st d x) sb db xb = 0 := appliedE_mk (by rw [hmid, List.length_map]; exact hfit) i2 (by rw [hml]; exact hr)
  have h3 : appliedE old S D X = 0 := appliedE_mk k1 i3 (rds_of_inn (d := D) (x := X) (ited_all i3).1 (by omega) (by rw [hog]; exact cmp_inn hI1 hin))
  have he : applied (applied old st d x) sb db xb = applied old S D X := by
    rw [applied_ok h2, applied_ok h3, hog, cmp_ob hin, hmid]
  simp only
  rw [ha _ sb db xb (by omega), Option.bind_some, ha old S D X hs, Option.bind_some]
  simp only
  rw [if_pos h2, if_pos h3, he]
  simp [sapperlaw16_same.f, sapperlaw16_awake.f]
theorem walk_editChain (Ao : Option Addr) (co : Nat) (old : List Int) (A0 : Option Addr) (c0 : Nat) (st : List S80) (A1 : Option Addr) (c1 : Nat) (d : List Int) (A2 : Option Addr) (c2 : Nat) (x : List Int)
    (D0 : Option Addr) (g0 : Nat) (sb : List S80) (D1 : Option Addr) (g1 : Nat) (db : List Int) (D2 : Option Addr) (g2 : Nat) (xb : List Int) (w : World) (HO : Bys w Ao co old ∧ old.length ≤ 1048576)
    (H : EdI w A0 c0 st A1 c1 d A2 c2 x ∧ st.length ≤ 1048576 ∧ d.length ≤ 1048576 ∧ x.length ≤ 1048576)
    (H2 : EdI w D0 g0 sb D1 g1 db D2 g2 xb ∧ sb.length ≤ 1048576 ∧ db.length ≤ 1048576 ∧ xb.length ≤ 1048576) :
    Calls Try.prog 15 #[.slice Ao old.length co, .agg #[.slice A0 st.length c0, .slice A1 d.length c1, .slice A2 x.length c2], .agg #[.slice D0 sb.length g0, .slice D1 db.length g1, .slice D2 xb.length g2]] w fun e w' => e = .returned (.bool true) ∧ Below w.heap.size w w' := by
  obtain ⟨⟨hE, _, _, _⟩, hf, _, _⟩ := H
  obtain ⟨⟨hG, _, _, _⟩, hfb, _, _⟩ := H2
  obtain ⟨⟨hO, hoc, _⟩, _⟩ := HO
  exact sapperlaw16_EditChain.calls Ao co old A0 c0 st A1 c1 d A2 c2 x D0 g0 sb D1 g1 db D2 g2 xb true w hO hoc hE.s hE.hs hE.di hE.hd hE.ex hE.hx hG.s hG.hs hG.di hG.hd hG.ex hG.hx (chain_f old st d x sb db xb hf hfb)
end Go.Proofs.Ytemlbjpefomboaa
