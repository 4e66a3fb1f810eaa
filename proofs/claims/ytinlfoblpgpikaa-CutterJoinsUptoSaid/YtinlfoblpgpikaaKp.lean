/- cutter: the document's Check, told plainly; it is the program's. -/
import Derived.Test.YtinlfoblpgpikaaKc
import Derived.Test.YtinlfoblpgpikaaF1
import Derived.Test.YtinlfoblpgpikaaF2
namespace Go.Proofs.Ytinlfoblpgpikaa
open Go.RowKit Go.Shelf Go.Proofs.YtinlfoblpgpikaaW.PrintWords Go.Proofs.YtinlfoblpgpikaaW.PrintLast Go.Proofs.YtinlfoblpgpikaaW.PrintMore Go.Proofs.Ytinlfoblpgpikaa.Pr
set_option linter.unusedVariables false
set_option linter.unusedSimpArgs false
def f81 (s : S81) : S82 := ⟨s.f0, s.f1, s.f2⟩
theorem drop_rd81 (L : List S81) (i : Nat) (h : i < L.length) : L.drop i = rd_T81 L i :: L.drop (i + 1) := by
  rw [List.drop_eq_getElem_cons h]
  congr 1
  simp [rd_T81, List.getD_eq_getElem?_getD, List.getElem?_eq_getElem h]
theorem faceSteps_l0 (L : List S81) (hl : L.length < 5864062014805) : ∀ (j i : Nat) (acc : List S82), i + j = L.length → acc.length = i → sapperlaw17_faceSteps.l0 (j + 1) acc L (L.length : Int) i = some (acc ++ (L.drop i).map f81)
  | 0, i, acc, hi, ha => by
    obtain rfl : i = L.length := by omega
    rw [sapperlaw17_faceSteps.l0, if_neg (by omega), List.drop_length]
    simp
  | j + 1, i, acc, hi, ha => by
    have hil : i < L.length := by omega
    rw [sapperlaw17_faceSteps.l0, if_pos (by omega), if_pos (by omega), if_pos (by omega), if_pos (by omega), w64 _ (by omega), show ((i : Int) + 1) = ((i + 1 : Nat) : Int) by omega, faceSteps_l0 L hl j (i + 1) _ (by omega) (by simp [ha]), drop_rd81 L i hil]
    simp [f81]
theorem face_f (pos : Int) (L : List S81) (d x : List Int) (hl : L.length < 5864062014805) (hd : d.length < 140737488355328) (hx : x.length < 140737488355328) : sapperlaw17_faceWindow.f (L.length + 1) pos L d x = some (pos, L.map f81, d, x) := by
  have hc : ∀ l : List Int, l.length < 140737488355328 → sapperref01_Copy.f l = some l := fun l h => by
    unfold sapperref01_Copy.f
    rw [Option.bind_some, if_pos (by simpa using h), List.nil_append]
  have hs := faceSteps_l0 L hl L.length 0 [] (by omega) rfl
  rw [List.nil_append, List.drop_zero] at hs
  unfold sapperlaw17_faceWindow.f sapperlaw17_face.f sapperlaw17_faceSteps.f
  rw [show (0 : Int) = ((0 : Nat) : Int) from rfl, hs, Option.bind_some, hc d hd, Option.bind_some, hc x hx, Option.bind_some, Option.bind_some]
theorem in_f (a lo hi : Int) : sapperref17_in.f a lo hi = some (decide (lo ≤ a ∧ a ≤ hi)) := by
  unfold sapperref17_in.f
  by_cases h : lo ≤ a
  · rw [if_pos h]
    by_cases h2 : a ≤ hi
    · rw [decide_eq_true h2, decide_eq_true (And.intro h h2)]
    · rw [decide_eq_false h2, decide_eq_false (fun h3 => h2 h3.2)]
  · rw [if_neg h, decide_eq_false (fun h3 => h h3.1)]
/-- The sums, where they may be. -/
def sm : List S81 → Int → Int → Option (Int × Int)
  | [], a, c => some (a, c)
  | s :: l, a, c => if (0 ≤ s.f0 ∧ s.f0 ≤ 16777216) ∧ (0 ≤ s.f1 ∧ s.f1 ≤ 16777216) ∧ a + s.f0 ≤ 16777216 ∧ c + s.f1 ≤ 16777216 then sm l (a + s.f0) (c + s.f1) else none
def sme (r : Option (Int × Int)) : Int × Int × Bool := match r with | some (a, c) => (a, c, true) | none => (0, 0, false)
theorem sums_l0 (L : List S81) (hl : L.length ≤ 9223372036854775807) : ∀ (j i : Nat) (a c : Int), i + j = L.length → 0 ≤ a → a ≤ 16777216 → 0 ≤ c → c ≤ 16777216 → sapperref17_Sums.l0 (2 * j + 1) a c L (L.length : Int) i = some (sme (sm (L.drop i) a c))
  | 0, i, a, c, hi, h1, h2, h3, h4 => by
    obtain rfl : i = L.length := by omega
    rw [sapperref17_Sums.l0, if_neg (by omega), List.drop_length]
    rfl
  | j + 1, i, a, c, hi, h1, h2, h3, h4 => by
    have hil : i < L.length := by omega
    obtain ⟨s, hg⟩ : ∃ s, rd_T81 L (i : Int) = s := ⟨_, rfl⟩
    rw [show 2 * (j + 1) + 1 = 2 * j + 1 + 1 + 1 by omega, sapperref17_Sums.l0, if_pos (by omega), if_pos (by omega), if_pos (by omega), drop_rd81 L i hil, hg, in_f, Option.bind_some]
    by_cases c1 : 0 ≤ s.f0 ∧ s.f0 ≤ 16777216
    · rw [decide_eq_true c1, if_pos rfl, in_f, Option.bind_some]
      by_cases c2 : 0 ≤ s.f1 ∧ s.f1 ≤ 16777216
      · rw [decide_eq_true c2, sapperref17_Sums.j1, Bool.not_true, if_neg (by simp), w64 (a + s.f0) (by omega), w64 (c + s.f1) (by omega), w64 ((i : Int) + 1) (by omega)]
        by_cases c3 : a + s.f0 ≤ 16777216
        · rw [if_neg (by omega)]
          by_cases c4 : c + s.f1 ≤ 16777216
          · rw [if_neg (by omega), show ((i : Int) + 1) = ((i + 1 : Nat) : Int) by omega, sums_l0 L hl j (i + 1) _ _ (by omega) (by omega) c3 (by omega) c4, sm, if_pos ⟨c1, c2, c3, c4⟩]
          · rw [if_pos (by omega), sm, if_neg (fun h => c4 h.2.2.2)]
            rfl
        · rw [if_pos (by omega), sm, if_neg (fun h => c3 h.2.2.1)]
          rfl
      · rw [decide_eq_false c2, sapperref17_Sums.j1, Bool.not_false, if_pos rfl, sm, if_neg (fun h => c2 h.2.1)]
        rfl
    · rw [decide_eq_false c1, if_neg (by simp), sapperref17_Sums.j1, if_pos rfl, sm, if_neg (fun h => c1 h.1)]
      rfl
def bad (old : Int) (s : S81) (e : Bool) (p : Int) : Prop := (s.f0 = 0 ∧ s.f1 = 0) ∨ (e = true ∧ s.f2 ≠ 0) ∨ ¬ (-16777216 ≤ s.f2 ∧ s.f2 ≤ 16777216) ∨ ¬ (0 ≤ p + s.f0 ∧ p + s.f0 ≤ old) ∨ ¬ (0 ≤ p + s.f0 + s.f2 ∧ p + s.f0 + s.f2 ≤ old)
instance (old : Int) (s : S81) (e : Bool) (p : Int) : Decidable (bad old s e p) := by unfold bad; infer_instance
/-- All may be where they are. -/
def lw (old : Int) : List S81 → Int → Bool
  | [], _ => true
  | s :: l, p => if bad old s l.isEmpty p then false else lw old l (p + s.f0 + s.f2)
theorem chk_l0 (L : List S81) (hl : L.length ≤ 9223372036854775807) (old p0 : Int) (d x : List Int) (ho : 0 ≤ old ∧ old ≤ 16777216) : ∀ (j i : Nat) (p : Int), i + j = L.length → 0 ≤ p → p ≤ old → (∀ s ∈ L, 0 ≤ s.f0 ∧ s.f0 ≤ 16777216) → (∀ s ∈ L, -9223372036854775808 ≤ s.f2 ∧ s.f2 ≤ 9223372036854775807) →
    sapperref17_Check.l0 (2 * j + 1) old p L (L.length : Int) i p0 L d x = some (if lw old (L.drop i) p = true then 0 else 171)
  | 0, i, p, hi, h1, h2, hf, hf2 => by
    obtain rfl : i = L.length := by omega
    rw [sapperref17_Check.l0, if_neg (by omega), List.drop_length]
    rfl
  | j + 1, i, p, hi, h1, h2, hf, hf2 => by
    have hil : i < L.length := by omega
    have hmem : rd_T81 L (i : Int) ∈ L := by
      have : rd_T81 L (i : Int) = L[i] := by simp [rd_T81, List.getD_eq_getElem?_getD, List.getElem?_eq_getElem hil]
      rw [this]
      exact List.getElem_mem hil
    have hs0 := hf _ hmem
    have hs2 := hf2 _ hmem
    have he : (L.drop (i + 1)).isEmpty = decide ((i : Int) = (L.length : Int) - 1) := by
      by_cases hq : (i : Int) = (L.length : Int) - 1
      · rw [decide_eq_true hq, List.drop_eq_nil_of_le (by omega)]; rfl
      · rw [decide_eq_false hq]
        cases hd : L.drop (i + 1) with
        | nil => have := List.drop_eq_nil_iff.1 hd; omega
        | cons _ _ => rfl
    obtain ⟨⟨g0, g1, g2⟩, hg⟩ : ∃ s, rd_T81 L (i : Int) = s := ⟨_, rfl⟩
    rw [hg] at hs0 hs2
    simp only at hs0 hs2
    have IH := fun q h1 h2 => chk_l0 L hl old p0 d x ho j (i + 1) q (by omega) h1 h2 hf hf2
    have hw : wrap64 ((L.length : Int) - 1) = (L.length : Int) - 1 := w64 _ (by omega)
    -- what j2 answers
    have hj2 : ∀ b : Bool, sapperref17_Check.j2 (2 * j + 1 + 1) old p L (L.length : Int) i b p0 L d x g0 g1 g2 = some (if b = true ∨ ¬ (0 ≤ p + g0 ∧ p + g0 ≤ old) ∨ ¬ (0 ≤ wrap64 (p + g0 + g2) ∧ wrap64 (p + g0 + g2) ≤ old) then 171 else if lw old (L.drop (i + 1)) (wrap64 (p + g0 + g2)) = true then 0 else 171) := by
      intro b
      rw [sapperref17_Check.j2]
      cases b with
      | true => rw [if_pos rfl, if_pos (.inl rfl)]
      | false =>
        rw [if_neg (by simp), w64 (p + g0) (by omega), in_f, Option.bind_some]
        by_cases c1 : 0 ≤ p + g0 ∧ p + g0 ≤ old
        · rw [decide_eq_true c1, if_pos rfl, in_f, Option.bind_some]
          by_cases c2 : 0 ≤ wrap64 (p + g0 + g2) ∧ wrap64 (p + g0 + g2) ≤ old
          · rw [decide_eq_true c2, if_pos rfl, w64_add', show p + (g0 + g2) = p + g0 + g2 by omega, w64 ((i : Int) + 1) (by omega), show ((i : Int) + 1) = ((i + 1 : Nat) : Int) by omega, IH _ c2.1 c2.2, if_neg (show ¬ (false = true ∨ ¬ (0 ≤ p + g0 ∧ p + g0 ≤ old) ∨ ¬ (0 ≤ wrap64 (p + g0 + g2) ∧ wrap64 (p + g0 + g2) ≤ old)) from fun h => h.elim (fun h => Bool.noConfusion h) (fun h => h.elim (fun h => h c1) (fun h => h c2)))]
          · rw [decide_eq_false c2, if_neg (by simp), if_pos (.inr (.inr c2))]
        · rw [decide_eq_false c1, if_neg (by simp), if_pos (.inr (.inl c1))]
    have key : ∀ b : Bool, (b = true ↔ (g0 = 0 ∧ g1 = 0) ∨ ((i : Int) = (L.length : Int) - 1 ∧ g2 ≠ 0) ∨ ¬ (-16777216 ≤ g2 ∧ g2 ≤ 16777216)) → sapperref17_Check.j2 (2 * j + 1 + 1) old p L (L.length : Int) i b p0 L d x g0 g1 g2 = some (if lw old (L.drop i) p = true then 0 else 171) := by
      intro b hb
      rw [hj2 b, drop_rd81 L i hil, hg, lw]
      by_cases hbb : b = true
      · rw [if_pos (.inl hbb), if_pos (show bad old ⟨g0, g1, g2⟩ (L.drop (i + 1)).isEmpty p by
          unfold bad
          rw [he]
          rcases hb.1 hbb with h | h | h
          · exact .inl h
          · exact .inr (.inl ⟨decide_eq_true h.1, h.2⟩)
          · exact .inr (.inr (.inl h)))]
        rfl
      · have hnb : ¬ ((g0 = 0 ∧ g1 = 0) ∨ ((i : Int) = (L.length : Int) - 1 ∧ g2 ≠ 0) ∨ ¬ (-16777216 ≤ g2 ∧ g2 ≤ 16777216)) := fun h => hbb (hb.2 h)
        have hg2 : -16777216 ≤ g2 ∧ g2 ≤ 16777216 := by
          by_cases h : -16777216 ≤ g2 ∧ g2 ≤ 16777216
          · exact h
          · exact absurd (.inr (.inr h)) hnb
        by_cases c1 : 0 ≤ p + g0 ∧ p + g0 ≤ old
        · rw [w64 (p + g0 + g2) (by omega)]
          by_cases c2 : 0 ≤ p + g0 + g2 ∧ p + g0 + g2 ≤ old
          · rw [if_neg (show ¬ (b = true ∨ ¬ (0 ≤ p + g0 ∧ p + g0 ≤ old) ∨ ¬ (0 ≤ p + g0 + g2 ∧ p + g0 + g2 ≤ old)) from fun h => h.elim hbb (fun h => h.elim (fun h => h c1) (fun h => h c2))), if_neg (show ¬ bad old ⟨g0, g1, g2⟩ (L.drop (i + 1)).isEmpty p by
              unfold bad
              rw [he]
              rintro (h | h | h | h | h)
              · exact hnb (.inl h)
              · exact hnb (.inr (.inl ⟨of_decide_eq_true h.1, h.2⟩))
              · exact h hg2
              · exact h c1
              · exact h c2)]
          · rw [if_pos (.inr (.inr c2)), if_pos (show bad old ⟨g0, g1, g2⟩ (L.drop (i + 1)).isEmpty p from .inr (.inr (.inr (.inr c2))))]
            rfl
        · rw [if_pos (.inr (.inl c1)), if_pos (show bad old ⟨g0, g1, g2⟩ (L.drop (i + 1)).isEmpty p from .inr (.inr (.inr (.inl c1))))]
          rfl
    rw [show 2 * (j + 1) + 1 = 2 * j + 1 + 1 + 1 by omega, sapperref17_Check.l0, if_pos (by omega), if_pos (by omega), if_pos (by omega), hg]
    simp only [hw, in_f, Option.bind_some]
    by_cases z0 : g0 = 0
    · rw [if_pos z0]
      by_cases z1 : g1 = 0
      · rw [if_pos z1]
        exact key true ⟨fun _ => .inl ⟨z0, z1⟩, fun _ => rfl⟩
      · rw [if_neg z1]
        by_cases z2 : (i : Int) = (L.length : Int) - 1
        · rw [if_pos z2]
          by_cases z3 : g2 = 0
          · rw [if_pos z3]
            exact key _ (by simp [z0, z1, z2, z3])
          · rw [if_neg z3]
            exact key true ⟨fun _ => .inr (.inl ⟨z2, z3⟩), fun _ => rfl⟩
        · rw [if_neg z2]
          exact key _ (by simp [z0, z1, z2] <;> omega)
    · rw [if_neg z0]
      by_cases z2 : (i : Int) = (L.length : Int) - 1
      · rw [if_pos z2]
        by_cases z3 : g2 = 0
        · rw [if_pos z3]
          exact key _ (by simp [z0, z2, z3])
        · rw [if_neg z3]
          exact key true ⟨fun _ => .inr (.inl ⟨z2, z3⟩), fun _ => rfl⟩
      · rw [if_neg z2]
        exact key _ (by simp [z0, z2] <;> omega)
/-- What the document's Check answers. -/
def rchk (pos : Int) (L : List S81) (d x : List Int) (old size : Int) : Int :=
  match sm L 0 0 with
  | none => 171
  | some (a, c) => if (1 ≤ size ∧ size ≤ 65536) ∧ (0 ≤ old ∧ old ≤ 16777216) ∧ a = d.length ∧ c = x.length ∧ a + c = size ∧ (0 ≤ pos ∧ pos ≤ old) ∧ lw old L pos = true then 0 else 171
theorem sm_le : ∀ (L : List S81) (a c a' c' : Int), sm L a c = some (a', c') → a ≤ a' ∧ c ≤ c' ∧ (a ≤ 16777216 → a' ≤ 16777216) ∧ (c ≤ 16777216 → c' ≤ 16777216) ∧ ∀ s ∈ L, 0 ≤ s.f0 ∧ s.f0 ≤ 16777216
  | [], a, c, a', c', h => by
    simp only [sm, Option.some.injEq, Prod.mk.injEq] at h
    obtain ⟨rfl, rfl⟩ := h
    exact ⟨Int.le_refl _, Int.le_refl _, id, id, fun s hs => by simp at hs⟩
  | s :: l, a, c, a', c', h => by
    rw [sm] at h
    by_cases hc : (0 ≤ s.f0 ∧ s.f0 ≤ 16777216) ∧ (0 ≤ s.f1 ∧ s.f1 ≤ 16777216) ∧ a + s.f0 ≤ 16777216 ∧ c + s.f1 ≤ 16777216
    · rw [if_pos hc] at h
      obtain ⟨h1, h2, h3, h4, h5⟩ := sm_le l _ _ _ _ h
      refine ⟨by omega, by omega, fun _ => h3 hc.2.2.1, fun _ => h4 hc.2.2.2, fun t ht => ?_⟩
      rcases List.mem_cons.1 ht with rfl | ht
      · exact hc.1
      · exact h5 t ht
    · rw [if_neg hc] at h; cases h
theorem rck_unf {k : Nat} {pos : Int} {L : List S81} {d x : List Int} {old size a c : Int} {b : Bool} (h : sapperref17_Sums.f k L = some (a, c, b)) : sapperref17_Check.f k pos L d x old size = (if b = true then ((sapperref17_in.f size 1 65536).bind fun t183 => (if t183 = true then ((sapperref17_in.f old 0 16777216).bind fun t184 => (if t184 = true then (if a = (d.length : Int) then (if c = (x.length : Int) then (if (wrap64 (a + c)) = size then ((sapperref17_in.f pos 0 old).bind fun t185 => (sapperref17_Check.j0 k old (!t185) pos L d x)) else (sapperref17_Check.j0 k old true pos L d x)) else (sapperref17_Check.j0 k old true pos L d x)) else (sapperref17_Check.j0 k old true pos L d x)) else (sapperref17_Check.j0 k old true pos L d x))) else (sapperref17_Check.j0 k old true pos L d x))) else (sapperref17_Check.j0 k old true pos L d x)) := by
  unfold sapperref17_Check.f
  rw [h]
  rfl
theorem rchk_f (pos : Int) (L : List S81) (d x : List Int) (old size : Int) (hl : L.length ≤ 9223372036854775807) (hf2 : ∀ s ∈ L, -9223372036854775808 ≤ s.f2 ∧ s.f2 ≤ 9223372036854775807) : ∃ k, sapperref17_Check.f k pos L d x old size = some (rchk pos L d x old size) := by
  refine ⟨2 * L.length + 1 + 1, ?_⟩
  have hs := sums_l0 L hl L.length 0 0 0 (by omega) (by omega) (by omega) (by omega) (by omega)
  rw [List.drop_zero] at hs
  have hs' : sapperref17_Sums.f (2 * L.length + 1 + 1) L = some (sme (sm L 0 0)) := sapperref17_Sums.mono L (2 * L.length + 1) _ hs
  have hbad : ∀ p0, sapperref17_Check.j0 (2 * L.length + 1 + 1) old true p0 L d x = some 171 := fun p0 => by rw [sapperref17_Check.j0, if_pos rfl]
  unfold rchk
  cases hsm : sm L 0 0 with
  | none =>
    rw [hsm] at hs'
    rw [rck_unf hs', if_neg (by simp), hbad]
  | some r =>
    obtain ⟨a, c⟩ := r
    obtain ⟨h1, h2, h3, h4, h5⟩ := sm_le L 0 0 a c hsm
    have ha := h3 (by omega)
    have hc := h4 (by omega)
    rw [hsm] at hs'
    rw [rck_unf hs', if_pos rfl, in_f, Option.bind_some]
    simp only
    by_cases q1 : 1 ≤ size ∧ size ≤ 65536
    rotate_left
    · rw [decide_eq_false q1, if_neg (by simp), hbad, if_neg (fun h => q1 h.1)]
    rw [decide_eq_true q1, if_pos rfl, in_f, Option.bind_some]
    by_cases q2 : 0 ≤ old ∧ old ≤ 16777216
    rotate_left
    · rw [decide_eq_false q2, if_neg (by simp), hbad, if_neg (fun h => q2 h.2.1)]
    rw [decide_eq_true q2, if_pos rfl]
    by_cases q3 : a = (d.length : Int)
    rotate_left
    · rw [if_neg q3, hbad, if_neg (fun h => q3 h.2.2.1)]
    rw [if_pos q3]
    by_cases q4 : c = (x.length : Int)
    rotate_left
    · rw [if_neg q4, hbad, if_neg (fun h => q4 h.2.2.2.1)]
    rw [if_pos q4, w64 (a + c) (by omega)]
    by_cases q5 : a + c = size
    rotate_left
    · rw [if_neg q5, hbad, if_neg (fun h => q5 h.2.2.2.2.1)]
    rw [if_pos q5, in_f, Option.bind_some]
    by_cases q6 : 0 ≤ pos ∧ pos ≤ old
    rotate_left
    · rw [decide_eq_false q6, Bool.not_false, hbad, if_neg (fun h => q6 h.2.2.2.2.2.1)]
    rw [decide_eq_true q6, Bool.not_true, sapperref17_Check.j0, if_neg (by simp)]
    have := chk_l0 L hl old pos d x q2 L.length 0 pos (by omega) q6.1 q6.2 h5 hf2
    rw [List.drop_zero] at this
    rw [show (0 : Int) = ((0 : Nat) : Int) from rfl, this]
    by_cases q7 : lw old L pos = true
    · rw [if_pos q7, if_pos ⟨q1, q2, q3, q4, q5, q6, q7⟩]
      rfl
    · rw [if_neg q7, if_neg (fun h => q7 h.2.2.2.2.2.2)]
theorem lastS_cons (s : S82) (l : List S82) : lastS (s :: l) = if l = [] then s.f2 else lastS l := by
  unfold lastS rd_T82
  cases l with
  | nil => simp
  | cons t l =>
    rw [if_neg (by simp)]
    have e1 : (((s :: t :: l).length : Int) - 1).toNat = l.length + 1 := by simp
    have e2 : (((t :: l).length : Int) - 1).toNat = l.length := by simp
    rw [e1, e2]
    rfl
theorem wk_cons (old size : Int) (s : S81) (l : List S82) (a c p : Int) : wk old size (f81 s :: l) a c p = if s.f0 < 0 ∨ s.f1 < 0 ∨ (s.f0 = 0 ∧ s.f1 = 0) ∨ size < s.f0 ∨ size < s.f1 then none
    else if ¬ (0 ≤ p + s.f0 ∧ p + s.f0 ≤ old) ∨ size < a + s.f0 + (c + s.f1) ∨ 16777216 < s.f2 ∨ s.f2 < -16777216 then none
    else if ¬ (0 ≤ p + s.f0 + s.f2 ∧ p + s.f0 + s.f2 ≤ old) then none else wk old size l (a + s.f0) (c + s.f1) (p + s.f0 + s.f2) := rfl
theorem wk_sm (old size : Int) (hsz : size ≤ 65536) : ∀ (L : List S81) (a c p a' c' : Int), 0 ≤ a → 0 ≤ c → a + c ≤ size → wk old size (L.map f81) a c p = some (a', c') → sm L a c = some (a', c') ∧ ((L = [] ∨ lastS (L.map f81) = 0) → lw old L p = true)
  | [], a, c, p, a', c', _, _, _, h => ⟨h, fun _ => rfl⟩
  | s :: l, a, c, p, a', c', ha, hc, hac, h => by
    rw [List.map_cons, wk_cons] at h
    by_cases q1 : s.f0 < 0 ∨ s.f1 < 0 ∨ (s.f0 = 0 ∧ s.f1 = 0) ∨ size < s.f0 ∨ size < s.f1
    · rw [if_pos q1] at h; cases h
    rw [if_neg q1] at h
    by_cases q2 : ¬ (0 ≤ p + s.f0 ∧ p + s.f0 ≤ old) ∨ size < a + s.f0 + (c + s.f1) ∨ 16777216 < s.f2 ∨ s.f2 < -16777216
    · rw [if_pos q2] at h; cases h
    rw [if_neg q2] at h
    by_cases q3 : ¬ (0 ≤ p + s.f0 + s.f2 ∧ p + s.f0 + s.f2 ≤ old)
    · rw [if_pos q3] at h; cases h
    rw [if_neg q3] at h
    obtain ⟨h1, h2⟩ := wk_sm old size hsz l _ _ _ _ _ (by omega) (by omega) (by omega) h
    refine ⟨by rw [sm, if_pos ⟨by omega, by omega, by omega, by omega⟩]; exact h1, fun hl => ?_⟩
    rw [List.map_cons, lastS_cons] at hl
    rw [lw, if_neg]
    · refine h2 ?_
      by_cases he : l = []
      · exact .inl he
      · rcases hl with hl | hl
        · cases hl
        · rw [if_neg (by simpa using he)] at hl
          exact .inr hl
    · unfold bad
      rintro (g | g | g | g | g)
      · exact q1 (.inr (.inr (.inl g)))
      · have he : l = [] := by simpa using g.1
        rcases hl with hl | hl
        · cases hl
        · rw [if_pos (by simp [he])] at hl
          exact g.2 hl
      · exact g (by omega)
      · exact g (by omega)
      · exact q3 g
theorem sm_wk (old size : Int) : ∀ (L : List S81) (a c p a' c' : Int), 0 ≤ a → 0 ≤ c → sm L a c = some (a', c') → lw old L p = true → a' + c' ≤ size → wk old size (L.map f81) a c p = some (a', c') ∧ (L = [] ∨ lastS (L.map f81) = 0)
  | [], a, c, p, a', c', _, _, h, _, _ => ⟨h, .inl rfl⟩
  | s :: l, a, c, p, a', c', ha, hc, h, hw, hsz => by
    have hle := sm_le (s :: l) _ _ _ _ h
    rw [sm] at h
    by_cases q1 : (0 ≤ s.f0 ∧ s.f0 ≤ 16777216) ∧ (0 ≤ s.f1 ∧ s.f1 ≤ 16777216) ∧ a + s.f0 ≤ 16777216 ∧ c + s.f1 ≤ 16777216
    rotate_left
    · rw [if_neg q1] at h; cases h
    rw [if_pos q1] at h
    have hle2 := sm_le l _ _ _ _ h
    rw [lw] at hw
    by_cases q2 : bad old s l.isEmpty p
    · rw [if_pos q2] at hw; cases hw
    rw [if_neg q2] at hw
    obtain ⟨h1, h2⟩ := sm_wk old size l _ _ _ _ _ (by omega) (by omega) h hw hsz
    unfold bad at q2
    have b1 : ¬ (s.f0 = 0 ∧ s.f1 = 0) := fun h => q2 (.inl h)
    have b3 : -16777216 ≤ s.f2 ∧ s.f2 ≤ 16777216 := Decidable.byContradiction fun h => q2 (.inr (.inr (.inl h)))
    have b4 : 0 ≤ p + s.f0 ∧ p + s.f0 ≤ old := Decidable.byContradiction fun h => q2 (.inr (.inr (.inr (.inl h))))
    have b5 : 0 ≤ p + s.f0 + s.f2 ∧ p + s.f0 + s.f2 ≤ old := Decidable.byContradiction fun h => q2 (.inr (.inr (.inr (.inr h))))
    refine ⟨?_, .inr ?_⟩
    · rw [List.map_cons, wk_cons]
      rw [if_neg (by omega), if_neg (by omega), if_neg (fun h => h b5)]
      exact h1
    · rw [List.map_cons, lastS_cons]
      by_cases he : l = []
      · rw [if_pos (by simp [he])]
        exact Decidable.byContradiction fun h => q2 (.inr (.inl ⟨by simp [he], h⟩))
      · rw [if_neg (by simpa using he)]
        rcases h2 with h2 | h2
        · exact absurd h2 he
        · exact h2
theorem chk_same (pos : Int) (L : List S81) (d x : List Int) (old size : Int) : rchk pos L d x old size = pchk pos (L.map f81) d x old size := by
  unfold rchk pchk
  by_cases P : size < 1 ∨ 65536 < size ∨ old < 0 ∨ 16777216 < old ∨ ¬ (0 ≤ pos ∧ pos ≤ old)
  · rw [if_pos P]
    cases sm L 0 0 with
    | none => rfl
    | some r => exact if_neg (by omega)
  rw [if_neg P]
  cases hw : wk old size (L.map f81) 0 0 pos with
  | none =>
    cases hs : sm L 0 0 with
    | none => rfl
    | some r =>
      obtain ⟨a, c⟩ := r
      refine if_neg (fun h => ?_)
      have := (sm_wk old size L 0 0 pos a c (by omega) (by omega) hs h.2.2.2.2.2.2 (by omega)).1
      rw [this] at hw
      cases hw
  | some r =>
    obtain ⟨a, c⟩ := r
    obtain ⟨h1, h2⟩ := wk_sm old size (by omega) L 0 0 pos a c (by omega) (by omega) (by omega) hw
    rw [h1]
    simp only
    by_cases e1 : L.map f81 = [] ∨ lastS (L.map f81) ≠ 0
    · rw [if_pos e1, if_neg]
      intro h
      rcases e1 with e1 | e1
      · have hL : L = [] := by simpa using e1
        subst hL
        simp only [sm, Option.some.injEq, Prod.mk.injEq] at h1
        omega
      · rcases (sm_wk old size L 0 0 pos a c (by omega) (by omega) h1 h.2.2.2.2.2.2 (by omega)).2 with g | g
        · subst g
          simp only [sm, Option.some.injEq, Prod.mk.injEq] at h1
          omega
        · exact e1 g
    · rw [if_neg e1]
      have hlast : lastS (L.map f81) = 0 := Decidable.byContradiction fun h => e1 (.inr h)
      have hw2 := h2 (.inr hlast)
      by_cases e2 : a ≠ (d.length : Int) ∨ c ≠ (x.length : Int) ∨ a + c ≠ size
      · rw [if_pos e2, if_neg (fun h => by omega)]
      · rw [if_neg e2, if_pos ⟨by omega, by omega, by omega, by omega, by omega, by omega, hw2⟩]
end Go.Proofs.Ytinlfoblpgpikaa
