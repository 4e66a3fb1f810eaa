/- cutter: the document's Join tells what Join answers. -/
import Derived.Test.YtinlfoblpgpikaaFa
import Derived.Test.YtinlfoblpgpikaaJw
namespace Go.Proofs.Ytinlfoblpgpikaa
open Go.RowKit Go.Shelf Go.Proofs.YtinlfoblpgpikaaW.PrintWords Go.Proofs.YtinlfoblpgpikaaW.PrintLast Go.Proofs.YtinlfoblpgpikaaW.PrintMore Go.Proofs.Ytinlfoblpgpikaa.Pr
set_option linter.unusedVariables false
set_option linter.unusedSimpArgs false
def jr (r : (List S82 × List Int × List Int) × Int) : List S81 × List Int × List Int × Int := (r.1.1.map t81, r.1.2.1, r.1.2.2, r.2)
theorem map_ft (st : List S82) : (st.map t81).map f81 = st := by
  rw [List.map_map]
  exact List.map_id'' (fun s => rfl) st
theorem rd_t81 (st : List S82) (i : Nat) (h : i < st.length) : rd_T81 (st.map t81) (i : Int) = t81 (rd_T82 st (i : Int)) := by
  simp [rd_T81, rd_T82, List.getD_eq_getElem?_getD, List.getElem?_eq_getElem h]
theorem rj_l1 (win : Int) (Y : List S45) (n : Int) (i : Nat) (hi : i ≤ 9223372036854775806) (st : List S82) (p : Int) (d x dl xl : List Int) (sl : List S81) (h0 : sl.length + st.length < 5864062014805) (h1 : dl.length + d.length < 140737488355328) (h2 : xl.length + x.length < 140737488355328) (k1 : Nat) :
    ∀ (j q : Nat) (a : Int), q + j = st.length → (∃ m k, WkS 16777216 (st.drop q) a m k) → (-100000000 ≤ a ∧ a ≤ 100000000) →
      sapperref17_Join.l1 (k1 + 1 + j) win Y a Y n i (st.map t81) ((st.map t81).length : Int) q sl dl xl p (st.map t81) d x =
        sapperref17_Join.l0 k1 win Y (movS (st.drop q) a) Y n ((i + 1 : Nat) : Int) (sl ++ st.map t81) (dl ++ d) (xl ++ x)
  | 0, q, a, hq, hw, ha => by
    have e : wrap64 ((i : Int) + 1) = ((i + 1 : Nat) : Int) := by rw [w64 _ (by omega)]; omega
    rw [Nat.add_zero, sapperref17_Join.l1, if_neg (by rw [List.length_map]; omega), if_pos (by rw [List.length_map]; exact h0), if_pos h1, if_pos h2, e, List.drop_eq_nil_of_le (by omega)]
    rfl
  | j + 1, q, a, hq, hw, ha => by
    have hql : q < st.length := by omega
    obtain ⟨m, k, hw⟩ := hw
    have hdr := drop_rd82 st q hql
    obtain ⟨s, hs⟩ : ∃ s, rd_T82 st (q : Int) = s := ⟨_, rfl⟩
    rw [hs] at hdr
    rw [hdr] at hw
    obtain ⟨f0, f1, f2⟩ := s
    have hw : ((0 ≤ f0 ∧ f0 ≤ 65536) ∧ (0 ≤ f1 ∧ f1 ≤ 65536) ∧ -16777216 ≤ f2 ∧ f2 ≤ 16777216) ∧ (0 ≤ a ∧ a + f0 ≤ 16777216) ∧ (f0.toNat ≤ m ∧ f1.toNat ≤ k) ∧ WkS 16777216 (st.drop (q + 1)) (a + f0 + f2) (m - f0.toNat) (k - f1.toNat) := hw
    obtain ⟨⟨⟨k0, k1'⟩, _, k2, k3⟩, ⟨k4, k5⟩, _, hw⟩ := hw
    rw [show k1 + 1 + (j + 1) = (k1 + 1 + j) + 1 by omega, sapperref17_Join.l1, if_pos (by rw [List.length_map]; omega), if_pos (by omega), if_pos (by rw [List.length_map]; omega), rd_t81 st q hql, hs]
    simp only [t81]
    rw [show wrap64 ((q : Int) + 1) = ((q + 1 : Nat) : Int) by rw [w64 _ (by omega)]; omega, w64 (f0 + f2) (by omega), w64 (a + (f0 + f2)) (by omega)]
    have := rj_l1 win Y n i hi st p d x dl xl sl h0 h1 h2 k1 j (q + 1) (a + (f0 + f2)) (by omega) ⟨_, _, by rw [← Int.add_assoc]; exact hw⟩ (by omega)
    rw [this, hdr]
    rfl
theorem movS_bd : ∀ (st : List S82) (a : Int), (-100000000 ≤ a ∧ a ≤ 100000000) → (∃ m k, WkS 16777216 st a m k) → -100000000 ≤ movS st a ∧ movS st a ≤ 100000000
  | [], a, ha, _ => ha
  | s :: l, a, ha, ⟨m, k, hw⟩ => by
    have hw : ((0 ≤ s.f0 ∧ s.f0 ≤ 65536) ∧ (0 ≤ s.f1 ∧ s.f1 ≤ 65536) ∧ -16777216 ≤ s.f2 ∧ s.f2 ≤ 16777216) ∧ (0 ≤ a ∧ a + s.f0 ≤ 16777216) ∧ (s.f0.toNat ≤ m ∧ s.f1.toNat ≤ k) ∧ WkS 16777216 l (a + s.f0 + s.f2) (m - s.f0.toNat) (k - s.f1.toNat) := hw
    obtain ⟨⟨⟨k0, k1⟩, _, k2, k3⟩, ⟨k4, k5⟩, _, hw⟩ := hw
    exact movS_bd l (a + (s.f0 + s.f2)) (by omega) ⟨_, _, by rw [← Int.add_assoc]; exact hw⟩
theorem rchk_zero {pos : Int} {L : List S81} {d x : List Int} {old size : Int} (h : rchk pos L d x old size = 0) : ∃ a c, sm L 0 0 = some (a, c) ∧ a = d.length ∧ c = x.length ∧ a + c = size ∧ 1 ≤ size ∧ size ≤ 65536 := by
  unfold rchk at h
  cases hs : sm L 0 0 with
  | none => rw [hs] at h; cases h
  | some r =>
    obtain ⟨a, c⟩ := r
    rw [hs] at h
    simp only at h
    split at h
    · rename_i q
      exact ⟨a, c, rfl, q.2.2.1, q.2.2.2.1, q.2.2.2.2.1, q.1.1, q.1.2⟩
    · cases h
theorem rj_l0 (win : Int) (X : List S43) (hwin : 64 ≤ win ∧ win ≤ 65536) (hX : X.length ≤ 9223372036854775806) (hf2 : ∀ y ∈ X, ∀ s ∈ y.f1.f0.map t81, -9223372036854775808 ≤ s.f2 ∧ s.f2 ≤ 9223372036854775807) :
    ∀ (l : List S43) (i : Nat) (at_ : Int) (sl : List S82) (dl xl : List Int), X.drop i = l → i ≤ X.length → (-100000000 ≤ at_ ∧ at_ ≤ 100000000) → sl.length + totS l ≤ 5000000000000 → dl.length + totD l ≤ 100000000000000 → xl.length + totX l ≤ 100000000000000 →
      ∃ k, sapperref17_Join.l0 k win (X.map to45) at_ (X.map to45) ((X.map to45).length : Int) i (sl.map t81) dl xl = some (jr (jn win l at_ sl dl xl))
  | [], i, at_, sl, dl, xl, hl, hi, ha, t0, t1, t2 => by
    have hn : X.length ≤ i := by
      have := congrArg List.length hl
      rw [List.length_drop] at this
      simp at this
      omega
    refine ⟨1, ?_⟩
    rw [sapperref17_Join.l0, if_neg (by rw [List.length_map]; omega)]
    rfl
  | y :: l, i, at_, sl, dl, xl, hl, hi, ha, t0, t1, t2 => by
    have hn : i < X.length := by
      have := congrArg List.length hl
      rw [List.length_drop] at this
      simp at this
      omega
    rw [drop_rd43 X i hn] at hl
    obtain ⟨hy, htl⟩ := List.cons.inj hl
    have hrd := rd_map45 X i hn
    rw [hy] at hrd
    have hmem : y ∈ X := by
      rw [← hy]
      have : rd_T43 X (i : Int) = X[i] := by simp [rd_T43, List.getD_eq_getElem?_getD, List.getElem?_eq_getElem hn]
      rw [this]
      exact List.getElem_mem hn
    have hlast : (i : Int) < wrap64 (((X.map to45).length : Int) - 1) ↔ l ≠ [] := by
      rw [List.length_map, w64 _ (by omega), ← htl]
      constructor
      · intro h e
        have := congrArg List.length e
        rw [List.length_drop] at this
        simp at this
        omega
      · intro h
        have : 0 < (X.drop (i + 1)).length := Nat.pos_of_ne_zero (fun e => h (List.eq_nil_of_length_eq_zero e))
        rw [List.length_drop] at this
        omega
    simp only [totS, totD, totX] at t0 t1 t2
    obtain ⟨p, ⟨st, d, x⟩⟩ := y
    simp only at t0 t1 t2 hf2
    have hL : (st.map t81).length = st.length := List.length_map _
    have hs := sums_l0 (st.map t81) (by omega) (st.map t81).length 0 0 0 (by omega) (by omega) (by omega) (by omega) (by omega)
    rw [List.drop_zero] at hs
    have hs' : sapperref17_Sums.f (2 * (st.map t81).length + 1) (st.map t81) = some (sme (sm (st.map t81) 0 0)) := hs
    have hP : pchk p st d x 16777216 (szW ⟨p, ⟨st, d, x⟩⟩) = rchk p (st.map t81) d x 16777216 (szW ⟨p, ⟨st, d, x⟩⟩) := by rw [chk_same, map_ft]
    have hsz : szW ⟨p, ⟨st, d, x⟩⟩ = (d.length : Int) + (x.length : Int) := rfl
    have hmap : to45 ⟨p, ⟨st, d, x⟩⟩ = ⟨p, ⟨st.map t81, d, x⟩⟩ := rfl
    rw [hmap] at hrd
    obtain ⟨b, kb, hb, hbf, hj⟩ : ∃ (b : Bool) (kb : Nat), (b = true ↔ ((l ≠ [] ∧ szW ⟨p, ⟨st, d, x⟩⟩ ≠ win) ∨ win < szW ⟨p, ⟨st, d, x⟩⟩ ∨ pchk p st d x 16777216 (szW ⟨p, ⟨st, d, x⟩⟩) ≠ 0)) ∧ True ∧ ∀ K, kb ≤ K →
        sapperref17_Join.l0 (K + 1) win (X.map to45) at_ (X.map to45) ((X.map to45).length : Int) i (sl.map t81) dl xl = sapperref17_Join.j1 K win (X.map to45) at_ (X.map to45) ((X.map to45).length : Int) i b (sl.map t81) dl xl p (st.map t81) d x := by
      cases hsm : sm (st.map t81) 0 0 with
      | none =>
        refine ⟨true, 2 * (st.map t81).length + 1, ⟨fun _ => .inr (.inr ?_), fun _ => rfl⟩, trivial, fun K hK => ?_⟩
        · rw [hP]
          intro e
          obtain ⟨a, c, h, _⟩ := rchk_zero e
          rw [hsm] at h
          cases h
        · have g0 : sapperref17_Sums.f K (st.map t81) = some (sme (sm (st.map t81) 0 0)) := at_rounds (g := fun k => sapperref17_Sums.f k (st.map t81)) (fun k => sapperref17_Sums.mono _ k) hK hs'
          rw [sapperref17_Join.l0, if_pos (by rw [List.length_map]; omega), if_pos (by omega), if_pos (by rw [List.length_map]; omega), hrd]
          simp only
          rw [g0, hsm, Option.bind_some]
          simp only [sme]
          exact if_neg (fun h => by cases h)
      | some r =>
        obtain ⟨a, c⟩ := r
        obtain ⟨h1, h2, h3, h4, h5⟩ := sm_le (st.map t81) 0 0 a c hsm
        have ha' := h3 (by omega)
        have hc' := h4 (by omega)
        have hw : wrap64 (a + c) = a + c := w64 _ (by omega)
        obtain ⟨kc, hkc⟩ := rchk_f p (st.map t81) d x 16777216 (a + c) (by omega) (fun s hs => hf2 _ hmem s hs)
        have key : rchk p (st.map t81) d x 16777216 (a + c) = 0 → a + c = (d.length : Int) + (x.length : Int) := fun e => by
          obtain ⟨a', c', h, q1, q2, _⟩ := rchk_zero e
          rw [hsm] at h
          cases h
          omega
        have key2 : rchk p (st.map t81) d x 16777216 ((d.length : Int) + (x.length : Int)) = 0 → a + c = (d.length : Int) + (x.length : Int) ∧ 1 ≤ a + c := fun e => by
          obtain ⟨a', c', h, q1, q2, q3, q4, q5⟩ := rchk_zero e
          rw [hsm] at h
          cases h
          omega
        have main : ∀ K, 2 * (st.map t81).length + 1 + kc ≤ K → sapperref17_Join.l0 (K + 1) win (X.map to45) at_ (X.map to45) ((X.map to45).length : Int) i (sl.map t81) dl xl = sapperref17_Join.j1 K win (X.map to45) at_ (X.map to45) ((X.map to45).length : Int) i (decide ((l ≠ [] ∧ a + c ≠ win) ∨ a + c < 1 ∨ win < a + c ∨ rchk p (st.map t81) d x 16777216 (a + c) ≠ 0)) (sl.map t81) dl xl p (st.map t81) d x := by
          intro K hK
          have g0 : sapperref17_Sums.f K (st.map t81) = some (sme (sm (st.map t81) 0 0)) := at_rounds (g := fun k => sapperref17_Sums.f k (st.map t81)) (fun k => sapperref17_Sums.mono _ k) (by omega) hs'
          have g1 : sapperref17_Check.f K p (st.map t81) d x 16777216 (a + c) = some (rchk p (st.map t81) d x 16777216 (a + c)) := at_rounds (g := fun k => sapperref17_Check.f k p (st.map t81) d x 16777216 (a + c)) (fun k => sapperref17_Check.mono p (st.map t81) d x 16777216 (a + c) k) (by omega) hkc
          rw [sapperref17_Join.l0, if_pos (by rw [List.length_map]; omega), if_pos (by omega), if_pos (by rw [List.length_map]; omega), hrd]
          simp only
          rw [g0, hsm, Option.bind_some]
          simp only [sme, hw]
          refine (if_pos trivial).trans ?_
          by_cases hll : l ≠ []
          · rw [if_pos (hlast.2 hll)]
            by_cases hcw : a + c = win
            · rw [if_pos hcw]
              by_cases hc1 : a + c < 1
              · rw [if_pos hc1, decide_eq_true (.inr (.inl hc1))]
              · rw [if_neg hc1]
                by_cases hc2 : a + c > win
                · rw [if_pos hc2, decide_eq_true (.inr (.inr (.inl hc2)))]
                · rw [if_neg hc2, g1, Option.bind_some]
                  congr 1
                  rw [Bool.eq_iff_iff]
                  simp only [bne_iff_ne, decide_eq_true_eq]
                  constructor
                  · intro h; exact .inr (.inr (.inr h))
                  · rintro (h | h | h | h)
                    · exact absurd hcw h.2
                    · exact absurd h hc1
                    · exact absurd h hc2
                    · exact h
            · rw [if_neg hcw, decide_eq_true (.inl ⟨hll, hcw⟩)]
          · rw [if_neg (fun h => hll (hlast.1 h))]
            by_cases hc1 : a + c < 1
            · rw [if_pos hc1, decide_eq_true (.inr (.inl hc1))]
            · rw [if_neg hc1]
              by_cases hc2 : a + c > win
              · rw [if_pos hc2, decide_eq_true (.inr (.inr (.inl hc2)))]
              · rw [if_neg hc2, g1, Option.bind_some]
                congr 1
                rw [Bool.eq_iff_iff]
                simp only [bne_iff_ne, decide_eq_true_eq]
                constructor
                · intro h; exact .inr (.inr (.inr h))
                · rintro (h | h | h | h)
                  · exact absurd h.1 hll
                  · exact absurd h hc1
                  · exact absurd h hc2
                  · exact h
        refine ⟨_, _, ?_, trivial, main⟩
        rw [decide_eq_true_eq, hP, hsz]
        by_cases he : a + c = (d.length : Int) + (x.length : Int)
        · rw [← he]
          constructor
          · rintro (h | h | h | h)
            · exact .inl h
            · refine .inr (.inr (fun e => ?_))
              obtain ⟨_, _, _, _, _, _, q, _⟩ := rchk_zero e
              omega
            · exact .inr (.inl h)
            · exact .inr (.inr h)
          · rintro (h | h | h)
            · exact .inl h
            · exact .inr (.inr (.inl h))
            · exact .inr (.inr (.inr h))
        · constructor
          · intro _
            exact .inr (.inr (fun e => he (key2 e).1))
          · intro _
            exact .inr (.inr (.inr (fun e => he (key e))))
    by_cases hfail : (l ≠ [] ∧ szW ⟨p, ⟨st, d, x⟩⟩ ≠ win) ∨ win < szW ⟨p, ⟨st, d, x⟩⟩ ∨ pchk p st d x 16777216 (szW ⟨p, ⟨st, d, x⟩⟩) ≠ 0
    · have hbt := hb.2 hfail
      subst hbt
      refine ⟨kb + 1 + 1, ?_⟩
      rw [hj (kb + 1) (by omega), sapperref17_Join.j1, if_pos rfl, jn, if_pos hfail]
      rfl
    · have hbt : b = false := by cases b with
        | false => rfl
        | true => exact absurd (hb.1 rfl) hfail
      subst hbt
      have hp0 : pchk p st d x 16777216 (szW ⟨p, ⟨st, d, x⟩⟩) = 0 := Decidable.byContradiction fun e => hfail (.inr (.inr e))
      obtain ⟨hwks, _, _, hpp0, hpp1, _⟩ := pchk_wks hp0
      have hmov : -100000000 ≤ movS st p ∧ movS st p ≤ 100000000 := movS_bd st p (by omega) ⟨_, _, hwks⟩
      have hjl : (jnS ⟨p, ⟨st, d, x⟩⟩ at_ sl).length ≤ sl.length + 1 + st.length := by
        unfold jnS
        split <;> simp only [List.length_append, List.length_cons, List.length_nil] <;> omega
      obtain ⟨k1, hk1⟩ := rj_l0 win X hwin hX hf2 l (i + 1) (movS st p) (jnS ⟨p, ⟨st, d, x⟩⟩ at_ sl) (dl ++ d) (xl ++ x) htl (by omega) hmov (by omega) (by rw [List.length_append]; omega) (by rw [List.length_append]; omega)
      have hjn : jn win (⟨p, ⟨st, d, x⟩⟩ :: l) at_ sl dl xl = jn win l (movS st p) (jnS ⟨p, ⟨st, d, x⟩⟩ at_ sl) (dl ++ d) (xl ++ x) := if_neg hfail
      have hin := fun (s81 : List S81) (hlen : s81.length + st.length < 5864062014805) => rj_l1 win (X.map to45) ((X.map to45).length : Int) i (by omega) st p d x dl xl s81 hlen (by omega) (by omega) k1 st.length 0 p (by omega) ⟨_, _, hwks⟩ (by omega)
      rw [hjn]
      obtain ⟨k2, hk2⟩ : ∃ k2, sapperref17_Join.j1 k2 win (X.map to45) at_ (X.map to45) ((X.map to45).length : Int) i false (sl.map t81) dl xl p (st.map t81) d x = some (jr (jn win l (movS st p) (jnS ⟨p, ⟨st, d, x⟩⟩ at_ sl) (dl ++ d) (xl ++ x))) := by
        refine ⟨k1 + 1 + st.length + 1 + 1, ?_⟩
        rw [sapperref17_Join.j1, if_neg (by decide)]
        by_cases hpa : p = at_
        · subst hpa
          rw [if_pos rfl, sapperref17_Join.j2]
          have h := hin (sl.map t81) (by rw [List.length_map]; omega)
          rw [show (((0 : Nat) : Int)) = 0 from rfl] at h
          rw [h, ← hk1, List.drop_zero]
          congr 1
          unfold jnS
          rw [if_pos rfl, List.map_append]
        · rw [if_neg hpa, if_pos (by rw [List.length_map]; omega), sapperref17_Join.j2, w64 (p - at_) (by omega)]
          have h := hin (sl.map t81 ++ [⟨0, 0, p - at_⟩]) (by rw [List.length_append, List.length_map]; simp only [List.length_cons, List.length_nil]; omega)
          rw [show (((0 : Nat) : Int)) = 0 from rfl] at h
          rw [h, ← hk1, List.drop_zero]
          congr 1
          unfold jnS
          rw [if_neg hpa, List.map_append, List.map_append]
          rfl
      refine ⟨kb + k2 + 1, ?_⟩
      rw [hj (kb + k2) (by omega)]
      exact at_rounds (g := fun k => sapperref17_Join.j1 k win (X.map to45) at_ (X.map to45) ((X.map to45).length : Int) i false (sl.map t81) dl xl p (st.map t81) d x) (fun k => (sapperref17_Join.mono_l k).2.1 _ _ _ _ _ _ _ _ _ _ _ _ _ _) (by omega) hk2
theorem rj_f (win : Int) (X : List S43) (hX : X.length ≤ 9223372036854775806) (hf2 : ∀ y ∈ X, ∀ s ∈ y.f1.f0.map t81, -9223372036854775808 ≤ s.f2 ∧ s.f2 ≤ 9223372036854775807) (t0 : totS X ≤ 5000000000000) (t1 : totD X ≤ 100000000000000) (t2 : totX X ≤ 100000000000000) :
    ∃ k, sapperref17_Join.f k win (X.map to45) = some (jr (joinR win X)) := by
  by_cases hwin : 64 ≤ win ∧ win ≤ 65536
  · obtain ⟨k, hk⟩ := rj_l0 win X hwin hX hf2 X 0 0 [] [] [] rfl (by omega) (by omega) (by simpa using t0) (by simpa using t1) (by simpa using t2)
    refine ⟨k, ?_⟩
    have hin : sapperref17_in.f win 64 65536 = some true := by
      unfold sapperref17_in.f
      rw [if_pos hwin.1, decide_eq_true hwin.2]
    unfold sapperref17_Join.f joinR
    rw [hin, Option.bind_some, if_pos rfl, if_neg (by omega)]
    exact hk
  · refine ⟨0, ?_⟩
    have hin : sapperref17_in.f win 64 65536 = some false := by
      unfold sapperref17_in.f
      by_cases h : win ≥ 64
      · rw [if_pos h, decide_eq_false (by omega)]
      · rw [if_neg h]
    unfold sapperref17_Join.f joinR
    rw [hin, Option.bind_some, if_neg (by decide), if_pos (by omega)]
    rfl
theorem jn_len (win : Int) : ∀ (l : List S43) (a : Int) (sl : List S82) (dl xl : List Int), (jn win l a sl dl xl).1.1.length ≤ sl.length + totS l ∧ (jn win l a sl dl xl).1.2.1.length ≤ dl.length + totD l ∧ (jn win l a sl dl xl).1.2.2.length ≤ xl.length + totX l
  | [], a, sl, dl, xl => by simp [jn, totS, totD, totX]
  | y :: l, a, sl, dl, xl => by
    rw [jn]
    split
    · simp
    · have h := jn_len win l (movS y.f1.f0 y.f0) (jnS y a sl) (dl ++ y.f1.f1) (xl ++ y.f1.f2)
      have hj : (jnS y a sl).length ≤ sl.length + 1 + y.f1.f0.length := by
        unfold jnS
        split <;> simp only [List.length_append, List.length_cons, List.length_nil] <;> omega
      simp only [totS, totD, totX]
      rw [List.length_append, List.length_append] at h
      omega
theorem joinR_len (win : Int) (X : List S43) : (joinR win X).1.1.length ≤ totS X ∧ (joinR win X).1.2.1.length ≤ totD X ∧ (joinR win X).1.2.2.length ≤ totX X := by
  unfold joinR
  split
  · simp
  · have := jn_len win X 0 [] [] []
    simpa using this
end Go.Proofs.Ytinlfoblpgpikaa
