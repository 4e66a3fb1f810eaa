/- edit: where a normal edit comes out, no place is far; how many steps it has. -/
import Derived.Test.YtemlbjpefomboaaNq
import Derived.Test.YtemlbjpefomboaaCp
import Derived.Test.YtemlbjpefomboaaEh
namespace Go.Proofs.Ytemlbjpefomboaa
open Go.RowKit Go.Shelf Go.Proofs.YtemlbjpefomboaaW.PrintWords Go.Proofs.YtemlbjpefomboaaW.PrintLast Go.Proofs.YtemlbjpefomboaaW.PrintMore Go.Proofs.Ytemlbjpefomboaa.Pr
set_option linter.unusedVariables false
set_option linter.unusedSimpArgs false
/-- No place is far. -/
def Mid (L : List S94) : Prop := ∀ o ∈ L, o.f0 = true → -562949953421312 ≤ o.f1 ∧ o.f1 ≤ 562949953421312
theorem far_of {p a : Int} {B : Int} (hp : wrap64 p = p) (hm : may ⟨0, 0, wrap64 (p - a)⟩ = true) (h1 : -B ≤ a) (h2 : a ≤ B) (hB : B ≤ 562949953421312) : -(B + 16777216) ≤ p ∧ p ≤ B + 16777216 := by
  have h := (may_iff _).1 hm
  simp only at h
  unfold wrap64 at hp h
  omega
theorem tk_mid {t t' : TS} {o : S94} {B : Int} (ho : CanO o) (hk : tk t o = some t') (h1 : -B ≤ t.a) (h2 : t.a ≤ B) (hB : B ≤ 562949953421312) : (o.f0 = true → -(B + 16777216) ≤ o.f1 ∧ o.f1 ≤ B + 16777216) ∧ -(B + 16777217) ≤ t'.a ∧ t'.a ≤ B + 16777217 := by
  have hw : ∀ p : Int, -(B + 16777216) ≤ p → p ≤ B + 16777216 → wrap64 (p + 1) = p + 1 := fun p q1 q2 => w64 _ (by omega)
  have hmy : ∀ (f0 f1 : Int), may ⟨f0, f1, wrap64 (o.f1 - t.a)⟩ = true → may ⟨0, 0, wrap64 (o.f1 - t.a)⟩ = true := fun f0 f1 h => by
    have := (may_iff _).1 h
    exact (may_iff _).2 (by simp only at this ⊢; omega)
  unfold tk at hk
  by_cases hf : o.f0 = true
  · rw [if_pos hf] at hk
    have key : (-(B + 16777216) ≤ o.f1 ∧ o.f1 ≤ B + 16777216) ∧ t'.a = wrap64 (o.f1 + 1) := by
      cases hc : t.cu with
      | none =>
        rw [hc] at hk
        simp only at hk
        split at hk
        · rename_i he
          cases hk
          exact ⟨⟨by omega, by omega⟩, rfl⟩
        · split at hk
          · rename_i hm
            cases hk
            exact ⟨far_of (ho.1 hf) hm h1 h2 hB, rfl⟩
          · cases hk
      | some s =>
        rw [hc] at hk
        simp only at hk
        split at hk
        · rename_i he
          cases hk
          exact ⟨⟨by omega, by omega⟩, rfl⟩
        · split at hk
          · rename_i hm
            cases hk
            exact ⟨far_of (ho.1 hf) (hmy _ _ hm) h1 h2 hB, rfl⟩
          · cases hk
    obtain ⟨⟨k1, k2⟩, k3⟩ := key
    rw [hw _ k1 k2] at k3
    exact ⟨fun _ => ⟨k1, k2⟩, by omega, by omega⟩
  · rw [if_neg hf] at hk
    refine ⟨fun h => absurd h hf, ?_⟩
    cases hc : t.cu with
    | none => rw [hc] at hk; cases hk; simp only; omega
    | some s => rw [hc] at hk; cases hk; simp only; omega
theorem tks_mid : ∀ (L : List S94) (t u : TS) (B : Int), Can L → tks L t = some u → -B ≤ t.a → t.a ≤ B → 0 ≤ B → B + 16777217 * (L.length : Int) ≤ 562949953421312 → Mid L
  | [], _, _, _, _, _, _, _, _, _ => fun o ho => by simp at ho
  | o :: l, t, u, B, hc, hk, h1, h2, h0, hB => by
    simp only [List.length_cons] at hB
    rw [tks] at hk
    cases h : tk t o with
    | none => rw [h] at hk; cases hk
    | some t' =>
      rw [h, Option.bind_some] at hk
      obtain ⟨k1, k2, k3⟩ := tk_mid (hc o List.mem_cons_self) h h1 h2 (by omega)
      have ih := tks_mid l t' u (B + 16777217) (fun x hx => hc x (List.mem_cons_of_mem _ hx)) hk (by omega) (by omega) (by omega) (by omega)
      intro x hx hf
      rcases List.mem_cons.1 hx with rfl | hx
      · have := k1 hf
        omega
      · exact ih x hx hf
theorem normOf_mid {L : List S94} {S : List S80} {D X : List Int} (hc : Can L) (hl : L.length ≤ 16777216) (h : normOf L = (S, D, X, 0)) : Mid L := by
  unfold normOf at h
  cases hk : tks L ts0 with
  | none => rw [hk] at h; simp [nrm] at h
  | some t => exact tks_mid L ts0 t 0 hc hk (by simp [ts0]) (by simp [ts0]) (by omega) (by omega)
theorem inn_app {n : Int} {A B : List S94} : Inn n (A ++ B) ↔ Inn n A ∧ Inn n B := by
  unfold Inn
  constructor
  · intro h
    exact ⟨fun o ho => h o (List.mem_append_left _ ho), fun o ho => h o (List.mem_append_right _ ho)⟩
  · rintro ⟨h1, h2⟩ o ho
    rcases List.mem_append.1 ho with ho | ho
    · exact h1 o ho
    · exact h2 o ho
/-- Where no place is far, an edit reads within an image just where its origins lie within. -/
theorem rds_inn (old : Int) : ∀ (st : List S80) (d x : List Int) (a : Int), st.all may = true → Mid (og st d x a) → (rds old st a = true ↔ Inn old (og st d x a))
  | [], d, x, a, _, _ => by simp [rds, og, Inn]
  | s :: l, d, x, a, hst, hm => by
    simp only [List.all_cons, Bool.and_eq_true] at hst
    have hs := (may_iff s).1 hst.1
    have hmr : Mid (og l (d.drop s.f0.toNat) (x.drop s.f1.toNat) (a + s.f0.toNat + s.f2)) := fun o ho => hm o (by rw [og]; exact List.mem_append_right _ (List.mem_append_right _ ho))
    have ih := rds_inn old l _ _ _ hst.2 hmr
    have hn : (s.f0.toNat : Int) = s.f0 := by omega
    have hmid : Inn old ((x.take s.f1.toNat).map (fun b => (⟨false, 0, b⟩ : S94))) := by
      intro o ho h
      obtain ⟨b, _, rfl⟩ := List.mem_map.1 ho
      cases h
    rw [og, inn_app, inn_app, ← ih, rds, hn]
    by_cases h0 : 0 < s.f0
    · have hmem : ∀ i : Nat, (i : Int) < s.f0 → (⟨true, wrap64 (a + (i : Int)), d.getD i 0⟩ : S94) ∈ (List.range s.f0.toNat).map (fun (i : Nat) => (⟨true, wrap64 (a + (i : Int)), d.getD i 0⟩ : S94)) := fun i hi => List.mem_map.2 ⟨i, List.mem_range.2 (by omega), rfl⟩
      have hm0 := hm _ (by rw [og]; exact List.mem_append_left _ (hmem 0 (by omega))) rfl
      simp only [Int.natCast_zero, Int.add_zero] at hm0
      have hw : ∀ k : Int, 0 ≤ k → k ≤ 16777216 → wrap64 (a + k) = wrap64 a + k := fun k k0 k1 => by
        rw [← w64_add, w64 _ (by omega)]
      have hin : Inn old ((List.range s.f0.toNat).map (fun (i : Nat) => (⟨true, wrap64 (a + (i : Int)), d.getD i 0⟩ : S94))) ↔ 0 ≤ wrap64 a ∧ wrap64 a + s.f0 ≤ old := by
        constructor
        · intro h
          have e0 := h _ (hmem 0 (by omega)) rfl
          have e1 := h _ (hmem (s.f0.toNat - 1) (by omega)) rfl
          simp only at e0 e1
          rw [hw _ (by omega) (by omega)] at e0 e1
          omega
        · rintro ⟨q1, q2⟩ o ho hf
          obtain ⟨i, hi, rfl⟩ := List.mem_map.1 ho
          have := List.mem_range.1 hi
          simp only
          rw [hw _ (by omega) (by omega)]
          omega
      rw [hin, hw s.f0 (by omega) (by omega)]
      by_cases hc : wrap64 a < 0 ∨ old < wrap64 a + s.f0
      · rw [if_pos ⟨h0, hc⟩]
        constructor
        · intro h; cases h
        · rintro ⟨h, _⟩
          omega
      · rw [if_neg (fun h => hc h.2)]
        constructor
        · intro h
          exact ⟨by omega, hmid, h⟩
        · rintro ⟨_, _, h⟩
          exact h
    · have hz : s.f0.toNat = 0 := by omega
      rw [if_neg (fun h => h0 h.1), hz, List.range_zero, List.map_nil]
      constructor
      · intro h
        exact ⟨fun o ho => by simp at ho, hmid, h⟩
      · rintro ⟨_, _, h⟩
        exact h
theorem applied_mid {old : List Int} {st : List S80} {d x : List Int} (hm : Mid (og st d x 0)) (h : appliedE old st d x = 0) : Inn old.length (og st d x 0) := by
  obtain ⟨_, h2, h3⟩ := appliedE_ok h
  exact (rds_inn _ st d x 0 (ited_all h2).1 hm).1 h3
/-- The normal edit means what the edit means. -/
theorem norm_same {st : List S80} {d x : List Int} {S : List S80} {D X : List Int} (hok : (ited st d x).2 = 0) (h : normOf (og st d x 0) = (S, D, X, 0)) :
    og S D X 0 = og st d x 0 ∧ (ited S D X).2 = 0 ∧ (ited S D X).1 = (ited st d x).1 ∧ Mid (og st d x 0) ∧ normOf (og S D X 0) = (S, D, X, 0) ∧ ∀ old : List Int, appliedE old S D X = appliedE old st d x ∧ applied old S D X = applied old st d x := by
  have hc := og_can st d x 0
  have hl := og_fit hok
  obtain ⟨ho, hi⟩ := normOf_og hc hl h
  have hm := normOf_mid hc hl h
  have hi2 : (ited S D X).2 = 0 := by rw [hi]
  have hlen := og_ited hok
  have ha := ited_all hok
  refine ⟨ho, hi2, by rw [hi]; exact hlen, hm, by rw [ho]; exact h, fun old => ?_⟩
  have hr := rds_inn old.length st d x 0 ha.1 hm
  have hr2 := rds_inn old.length S D X 0 (ited_all hi2).1 (by rw [ho]; exact hm)
  rw [ho] at hr2
  have hrr : rds old.length S 0 = rds old.length st 0 := by
    cases h1 : rds old.length S 0 with
    | true => exact (hr.2 (hr2.1 h1)).symm
    | false =>
      cases h3 : rds old.length st 0 with
      | false => rfl
      | true => rw [hr2.2 (hr.1 h3)] at h1; cases h1
  have he : appliedE old S D X = appliedE old st d x := by
    unfold appliedE
    rw [hi2, hok, hrr]
  refine ⟨he, ?_⟩
  unfold applied
  rw [he, ho]
/-! ### how many steps -/
theorem tks_app : ∀ (A B : List S94) (t : TS), tks (A ++ B) t = (tks A t).bind (tks B)
  | [], B, t => by simp [tks]
  | o :: A, B, t => by
    rw [List.cons_append, tks, tks]
    cases h : tk t o with
    | none => rfl
    | some u => rw [Option.bind_some, Option.bind_some]; exact tks_app A B u
def opn (t : TS) : Bool := match t.cu with | none => true | some s => decide (s.f1 = 0)
def CuN (t : TS) : Prop := ∀ s, t.cu = some s → 0 ≤ s.f1
theorem tk_add {t t' : TS} {o : S94} (hf : o.f0 = true) (hk : tk t o = some t') : t'.dn.length = t.dn.length + (if opn t = true ∧ o.f1 = t.a then 0 else 1) ∧ (∃ k, t'.cu = some ⟨k, 0, 0⟩) ∧ t'.a = wrap64 (o.f1 + 1) := by
  unfold tk at hk
  rw [if_pos hf] at hk
  cases hc : t.cu with
  | none =>
    rw [hc] at hk
    simp only at hk
    have hop : opn t = true := by unfold opn; rw [hc]
    split at hk
    · rename_i he
      cases hk
      rw [if_pos ⟨hop, he⟩]
      exact ⟨rfl, ⟨_, rfl⟩, rfl⟩
    · rename_i he
      split at hk
      · cases hk
        rw [if_neg (fun h => he h.2)]
        exact ⟨by simp, ⟨_, rfl⟩, rfl⟩
      · cases hk
  | some s =>
    rw [hc] at hk
    simp only at hk
    have hop : opn t = decide (s.f1 = 0) := by unfold opn; rw [hc]
    split at hk
    · rename_i he
      cases hk
      rw [if_pos ⟨by rw [hop]; simpa using he.2, he.1⟩]
      exact ⟨rfl, ⟨_, rfl⟩, rfl⟩
    · rename_i he
      split at hk
      · cases hk
        rw [if_neg (fun h => he ⟨h.2, by have := h.1; rw [hop] at this; simpa using this⟩)]
        exact ⟨by simp, ⟨_, rfl⟩, rfl⟩
      · cases hk
theorem tk_own {t t' : TS} {o : S94} (hn : CuN t) (hf : o.f0 = false) (hk : tk t o = some t') : t'.dn = t.dn ∧ (∃ k m, t'.cu = some ⟨k, m, 0⟩ ∧ 0 < m) ∧ t'.a = t.a := by
  unfold tk at hk
  rw [if_neg (by rw [hf]; simp)] at hk
  cases hc : t.cu with
  | none => rw [hc] at hk; cases hk; exact ⟨rfl, ⟨_, _, rfl, by omega⟩, rfl⟩
  | some s => rw [hc] at hk; cases hk; have := hn s hc; exact ⟨rfl, ⟨_, _, rfl, by omega⟩, rfl⟩
theorem tks_adds (f : Nat → Int) (a : Int) (t : TS) : ∀ (n : Nat) (u : TS), tks ((List.range (n + 1)).map (fun (i : Nat) => (⟨true, wrap64 (a + (i : Int)), f i⟩ : S94))) t = some u →
    u.dn.length = t.dn.length + (if opn t = true ∧ wrap64 a = t.a then 0 else 1) ∧ (∃ k, u.cu = some ⟨k, 0, 0⟩) ∧ u.a = wrap64 (a + (n + 1 : Nat))
  | 0, u, h => by
    simp only [List.range_succ, List.range_zero, List.nil_append, List.map_cons, List.map_nil, tks] at h
    cases hk : tk t ⟨true, wrap64 (a + ((0 : Nat) : Int)), f 0⟩ with
    | none => rw [hk] at h; cases h
    | some v =>
      rw [hk, Option.bind_some] at h
      cases h
      obtain ⟨h1, h2, h3⟩ := tk_add rfl hk
      simp only [Int.natCast_zero, Int.add_zero] at h1 h3
      refine ⟨h1, h2, ?_⟩
      rw [h3, w64_add]
      rfl
  | n + 1, u, h => by
    rw [List.range_succ, List.map_append, tks_app] at h
    cases hk : tks ((List.range (n + 1)).map (fun (i : Nat) => (⟨true, wrap64 (a + (i : Int)), f i⟩ : S94))) t with
    | none => rw [hk] at h; cases h
    | some v =>
      rw [hk, Option.bind_some, List.map_cons, List.map_nil, tks] at h
      obtain ⟨h1, ⟨k, h2⟩, h3⟩ := tks_adds f a t n v hk
      cases hk2 : tk v ⟨true, wrap64 (a + ((n + 1 : Nat) : Int)), f (n + 1)⟩ with
      | none => rw [hk2] at h; cases h
      | some y =>
        rw [hk2, Option.bind_some, tks] at h
        cases h
        obtain ⟨g1, g2, g3⟩ := tk_add rfl hk2
        simp only at g1 g3
        rw [if_pos ⟨by unfold opn; rw [h2]; simp, h3.symm⟩, h1] at g1
        refine ⟨g1, g2, ?_⟩
        rw [g3, w64_add]
        congr 1
        omega
theorem tks_owns : ∀ (l : List Int) (t u : TS), CuN t → l ≠ [] → tks (l.map (fun b => (⟨false, 0, b⟩ : S94))) t = some u → u.dn = t.dn ∧ (∃ k m, u.cu = some ⟨k, m, 0⟩ ∧ 0 < m) ∧ u.a = t.a
  | [], _, _, _, h, _ => absurd rfl h
  | b :: l, t, u, hn, _, h => by
    rw [List.map_cons, tks] at h
    cases hk : tk t ⟨false, 0, b⟩ with
    | none => rw [hk] at h; cases h
    | some v =>
      rw [hk, Option.bind_some] at h
      obtain ⟨h1, ⟨k, m, h2, hm⟩, h3⟩ := tk_own hn rfl hk
      cases l with
      | nil => simp only [List.map_nil, tks] at h; cases h; exact ⟨h1, ⟨k, m, h2, hm⟩, h3⟩
      | cons b' l' =>
        obtain ⟨g1, g2, g3⟩ := tks_owns (b' :: l') v u (fun s hs => by rw [h2] at hs; cases hs; simp only; omega) (by simp) h
        exact ⟨g1.trans h1, g2, g3.trans h3⟩
/-- How many steps an edit needs. -/
def bnd : List S80 → Int → Int → Bool → Bool → Nat
  | [], _, _, _, any => if any = true then 1 else 0
  | s :: l, a, p, o, any =>
    if 0 < s.f0 then (if o = true ∧ wrap64 a = p then 0 else 1) + bnd l (a + s.f0 + s.f2) (wrap64 (a + s.f0)) (decide (¬ 0 < s.f1)) true
    else if 0 < s.f1 then bnd l (a + s.f0 + s.f2) p false true else bnd l (a + s.f0 + s.f2) p o any
theorem bnd_tks : ∀ (st : List S80) (d x : List Int) (a : Int) (t u : TS), st.all may = true → sC st = x.length → CuN t → tks (og st d x a) t = some u → u.st.length = t.dn.length + bnd st a t.a (opn t) t.cu.isSome
  | [], d, x, a, t, u, _, _, _, h => by
    simp only [og, tks] at h
    cases h
    unfold TS.st bnd
    rw [List.length_append]
    cases t.cu <;> simp
  | s :: l, d, x, a, t, u, hst, hx, hn, h => by
    simp only [List.all_cons, Bool.and_eq_true] at hst
    have hs := (may_iff s).1 hst.1
    have hcn := sC_nn l hst.2
    simp only [sC] at hx
    rw [og, tks_app] at h
    have hf0 : (s.f0.toNat : Int) = s.f0 := by omega
    rw [hf0] at h
    have hx2 : sC l = ((x.drop s.f1.toNat).length : Int) := by rw [List.length_drop]; omega
    -- behind the adds
    cases hk : tks ((List.range s.f0.toNat).map (fun (i : Nat) => (⟨true, wrap64 (a + (i : Int)), d.getD i 0⟩ : S94))) t with
    | none => rw [hk] at h; cases h
    | some v =>
      rw [hk, Option.bind_some, tks_app] at h
      cases hk2 : tks ((x.take s.f1.toNat).map (fun b => (⟨false, 0, b⟩ : S94))) v with
      | none => rw [hk2] at h; cases h
      | some y =>
        rw [hk2, Option.bind_some] at h
        have hv : (0 < s.f0 → v.dn.length = t.dn.length + (if opn t = true ∧ wrap64 a = t.a then 0 else 1) ∧ (∃ k, v.cu = some ⟨k, 0, 0⟩) ∧ v.a = wrap64 (a + s.f0)) ∧ (¬ 0 < s.f0 → v = t) := by
          constructor
          · intro h0
            obtain ⟨n, hn'⟩ : ∃ n, s.f0.toNat = n + 1 := ⟨s.f0.toNat - 1, by omega⟩
            rw [hn'] at hk
            have := tks_adds (fun i => d.getD i 0) a t n v hk
            rw [show ((n + 1 : Nat) : Int) = s.f0 by omega] at this
            exact this
          · intro h0
            rw [show s.f0.toNat = 0 by omega] at hk
            simp only [List.range_zero, List.map_nil, tks] at hk
            cases hk
            rfl
        have hvn : CuN v := by
          by_cases h0 : 0 < s.f0
          · obtain ⟨k, hc⟩ := (hv.1 h0).2.1
            intro s' hs'
            rw [hc] at hs'
            cases hs'
            simp
          · rw [hv.2 h0]; exact hn
        have hy : (0 < s.f1 → y.dn = v.dn ∧ (∃ k m, y.cu = some ⟨k, m, 0⟩ ∧ 0 < m) ∧ y.a = v.a) ∧ (¬ 0 < s.f1 → y = v) := by
          constructor
          · intro h1
            refine tks_owns _ v y hvn (fun h => ?_) hk2
            have := congrArg List.length h
            rw [List.length_take, List.length_nil] at this
            omega
          · intro h1
            rw [show s.f1.toNat = 0 by omega] at hk2
            simp only [List.take_zero, List.map_nil, tks] at hk2
            cases hk2
            rfl
        have hyn : CuN y := by
          by_cases h1 : 0 < s.f1
          · obtain ⟨k, m, hc, hm⟩ := (hy.1 h1).2.1
            intro s' hs'
            rw [hc] at hs'
            cases hs'
            simp only
            omega
          · rw [hy.2 h1]; exact hvn
        have ih := bnd_tks l _ _ _ y u hst.2 hx2 hyn h
        rw [ih, bnd]
        by_cases h0 : 0 < s.f0
        · obtain ⟨g1, ⟨k, g2⟩, g3⟩ := hv.1 h0
          rw [if_pos h0]
          by_cases h1 : 0 < s.f1
          · obtain ⟨e1, ⟨k', m, e2, hm⟩, e3⟩ := hy.1 h1
            have ho : opn y = decide (¬ 0 < s.f1) := by
              unfold opn
              rw [e2]
              simp only
              rw [decide_eq_false (show ¬ m = 0 by omega), decide_eq_false (fun h => h h1)]
            rw [e1, e3, g3, ho, e2, g1, Option.isSome_some]
            omega
          · have e := hy.2 h1
            rw [e]
            have ho : opn v = decide (¬ 0 < s.f1) := by
              unfold opn
              rw [g2]
              simp only
              rw [decide_eq_true h1]
              simp
            rw [g3, ho, g2, g1, Option.isSome_some]
            omega
        · rw [if_neg h0]
          have ev := hv.2 h0
          by_cases h1 : 0 < s.f1
          · obtain ⟨e1, ⟨k', m, e2, hm⟩, e3⟩ := hy.1 h1
            have ho : opn y = false := by
              unfold opn
              rw [e2]
              simp only
              exact decide_eq_false (by omega)
            rw [if_pos h1, e1, e3, ho, e2, ev, Option.isSome_some]
          · rw [if_neg h1, hy.2 h1, ev]
theorem bnd_le : ∀ (st : List S80) (a p : Int) (o any : Bool), bnd st a p o any ≤ st.length + 1 ∧ (any = false → o = true → wrap64 a = p → bnd st a p o any ≤ st.length)
  | [], a, p, o, any => by
    unfold bnd
    cases any <;> simp
  | s :: l, a, p, o, any => by
    have i1 := (bnd_le l (a + s.f0 + s.f2) (wrap64 (a + s.f0)) (decide (¬ 0 < s.f1)) true).1
    have i2 := (bnd_le l (a + s.f0 + s.f2) p false true).1
    have i3 := (bnd_le l (a + s.f0 + s.f2) p o any).1
    simp only [bnd, List.length_cons]
    constructor
    · split
      · split <;> omega
      · split <;> omega
    · intro _ h2 h3
      split
      · rw [if_pos ⟨h2, h3⟩]; omega
      · split <;> omega
theorem norm_steps {st : List S80} {d x : List Int} {S : List S80} {D X : List Int} (hok : (ited st d x).2 = 0) (h : normOf (og st d x 0) = (S, D, X, 0)) : S.length = bnd st 0 0 true false ∧ S.length ≤ st.length := by
  have ha := ited_all hok
  unfold normOf at h
  cases hk : tks (og st d x 0) ts0 with
  | none => rw [hk] at h; simp [nrm] at h
  | some t =>
    rw [hk] at h
    simp only [nrm, Prod.mk.injEq] at h
    obtain ⟨rfl, _⟩ := h
    have := bnd_tks st d x 0 ts0 t ha.1 ha.2.2.2.1 (fun s hs => by simp [ts0] at hs) hk
    simp only [ts0, opn, List.length_nil, Nat.zero_add, Option.isSome_none] at this
    have hb := (bnd_le st 0 0 true false).2 rfl rfl (w64 0 (by omega))
    exact ⟨this, by omega⟩
theorem bounds_l0 (st : List S80) (hst : st.all may = true) (hl : st.length ≤ 9223372036854775807) : ∀ (j i n : Nat) (a p : Int) (o any : Bool), i + j = st.length → n + bnd (st.drop i) a p o any ≤ 4611686018427387904 →
    ∃ k, sapperlaw16_bounds.l0 k n (wrap64 a) p o any st (st.length : Int) i = some ((n + bnd (st.drop i) a p o any : Nat) : Int)
  | 0, i, n, a, p, o, any, hi, hn => by
    obtain rfl : i = st.length := by omega
    refine ⟨1, ?_⟩
    rw [List.drop_length] at hn ⊢
    rw [sapperlaw16_bounds.l0, if_neg (by omega)]
    unfold bnd at hn ⊢
    cases any with
    | true =>
      rw [if_pos rfl] at hn ⊢
      rw [if_pos rfl, w64 _ (by omega)]
      rfl
    | false => rw [if_neg (by simp), if_neg (by simp)]; rfl
  | j + 1, i, n, a, p, o, any, hi, hn => by
    have hil : i < st.length := by omega
    have hm := all_drop hst i
    rw [drop_rd st i hil] at hn hm ⊢
    simp only [List.all_cons, Bool.and_eq_true] at hm
    have hs := (may_iff _).1 hm.1
    obtain ⟨⟨f0, f1, f2⟩, hg⟩ : ∃ s, rd_T80 st (i : Int) = s := ⟨_, rfl⟩
    rw [hg] at hn hs ⊢
    simp only at hs
    have e3 : wrap64 ((i : Int) + 1) = ((i + 1 : Nat) : Int) := by rw [w64 _ (by omega)]; rfl
    have ea : wrap64 (wrap64 (wrap64 a + f0) + f2) = wrap64 (a + f0 + f2) := by rw [w64_add (wrap64 a + f0) f2, Int.add_assoc, w64_add, Int.add_assoc]
    have ea' : wrap64 (wrap64 a + f0) = wrap64 (a + f0) := w64_add _ _
    unfold bnd at hn ⊢
    simp only at hn ⊢
    by_cases h0 : 0 < f0
    · rw [if_pos h0] at hn ⊢
      by_cases hc : o = true ∧ wrap64 a = p
      · rw [if_pos hc, Nat.zero_add] at hn ⊢
        obtain ⟨k, hk⟩ := bounds_l0 st hst hl j (i + 1) n (a + f0 + f2) (wrap64 (a + f0)) (decide (¬ 0 < f1)) true (by omega) hn
        refine ⟨k + 1 + 1, ?_⟩
        rw [sapperlaw16_bounds.l0, if_pos (by omega), if_pos (by omega), if_pos (by omega), hg]
        simp only
        rw [if_pos (by omega), if_pos hc.1, sapperlaw16_bounds.j1, if_neg (by simp [hc.2]), ea, e3, ea']
        by_cases h1 : 0 < f1
        · rw [decide_eq_false (fun h => h h1)] at hk ⊢
          rw [if_pos (by omega)]
          exact hk
        · rw [decide_eq_true h1] at hk ⊢
          rw [if_neg (by omega)]
          exact hk
      · rw [if_neg hc] at hn ⊢
        obtain ⟨k, hk⟩ := bounds_l0 st hst hl j (i + 1) (n + 1) (a + f0 + f2) (wrap64 (a + f0)) (decide (¬ 0 < f1)) true (by omega) (by omega)
        rw [show ((n + 1 : Nat) : Int) = (n : Int) + 1 by omega, Nat.add_assoc] at hk
        have en : wrap64 ((n : Int) + 1) = (n : Int) + 1 := w64 _ (by omega)
        have hj : ∀ b : Bool, b = true → sapperlaw16_bounds.j1 (k + 1) n (wrap64 a) st (st.length : Int) i b f0 f1 f2 = some ((n + (1 + bnd (st.drop (i + 1)) (a + f0 + f2) (wrap64 (a + f0)) (decide (¬ 0 < f1)) true) : Nat) : Int) := by
          intro b hb
          rw [sapperlaw16_bounds.j1, if_pos hb, ea, e3, ea', en]
          by_cases h1 : 0 < f1
          · rw [decide_eq_false (fun h => h h1)] at hk ⊢
            rw [if_pos (by omega)]
            exact hk
          · rw [decide_eq_true h1] at hk ⊢
            rw [if_neg (by omega)]
            exact hk
        refine ⟨k + 1 + 1, ?_⟩
        rw [sapperlaw16_bounds.l0, if_pos (by omega), if_pos (by omega), if_pos (by omega), hg]
        simp only
        rw [if_pos (by omega)]
        cases o with
        | true =>
          rw [if_pos rfl]
          refine hj _ ?_
          have : wrap64 a ≠ p := fun h => hc ⟨rfl, h⟩
          simpa using this
        | false => rw [if_neg (by simp)]; exact hj _ rfl
    · rw [if_neg h0] at hn ⊢
      by_cases h1 : 0 < f1
      · rw [if_pos h1] at hn ⊢
        obtain ⟨k, hk⟩ := bounds_l0 st hst hl j (i + 1) n (a + f0 + f2) p false true (by omega) hn
        refine ⟨k + 1, ?_⟩
        rw [sapperlaw16_bounds.l0, if_pos (by omega), if_pos (by omega), if_pos (by omega), hg]
        simp only
        rw [if_neg (by omega), if_pos (by omega), ea, e3]
        exact hk
      · rw [if_neg h1] at hn ⊢
        obtain ⟨k, hk⟩ := bounds_l0 st hst hl j (i + 1) n (a + f0 + f2) p o any (by omega) hn
        refine ⟨k + 1, ?_⟩
        rw [sapperlaw16_bounds.l0, if_pos (by omega), if_pos (by omega), if_pos (by omega), hg]
        simp only
        rw [if_neg (by omega), if_neg (by omega), ea, e3]
        exact hk
end Go.Proofs.Ytemlbjpefomboaa
