/- edit: Join of one, two, three edits, by contract; what it means. -/
import Derived.Test.YtemlbjpefomboaaJo
import Derived.Test.YtemlbjpefomboaaCb
namespace Go.Proofs.Ytemlbjpefomboaa
open Go.RowKit Go.Shelf Go.Proofs.YtemlbjpefomboaaW.PrintWords Go.Proofs.YtemlbjpefomboaaW.PrintLast Go.Proofs.YtemlbjpefomboaaW.PrintMore Go.Proofs.Ytemlbjpefomboaa.Pr
set_option linter.unusedVariables false
set_option linter.unusedSimpArgs false
/-- Where one edit's lists lie. -/
structure Gx where
  A0 : Option Addr
  c0 : Nat
  A1 : Option Addr
  c1 : Nat
  A2 : Option Addr
  c2 : Nat
def Ge (W : World) (e : S28) (x : Gx) : Prop := EdC W x.A0 x.c0 e.f0 x.A1 x.c1 e.f1 x.A2 x.c2 e.f2
def gv (p : S28 × Gx) : List Value := [.slice p.2.A0 p.1.f0.length p.2.c0, .slice p.2.A1 p.1.f1.length p.2.c1, .slice p.2.A2 p.1.f2.length p.2.c2]
theorem gv_get : ∀ (G : List (S28 × Gx)) (j i : Nat) (p : S28 × Gx), G[j]? = some p → i < 3 → (G.flatMap gv)[j * 3 + i]? = (gv p)[i]?
  | [], _, _, _, h, _ => by simp at h
  | a :: l, 0, i, p, h, hi => by
    simp at h
    subst h
    rw [List.flatMap_cons, Nat.zero_mul, Nat.zero_add, List.getElem?_append_left (by simpa [gv] using hi)]
  | a :: l, j + 1, i, p, h, hi => by
    rw [List.flatMap_cons, List.getElem?_append_right (by simp [gv]; omega)]
    have := gv_get l j i p (by simpa using h) hi
    rw [← this]
    congr 1
    simp [gv]
    omega
/-- A row of edits that was written down. -/
theorem C28_lit {W : World} {b : Nat} (G : List (S28 × Gx)) {cs : Array Value} (hb : W.heap[b]? = some (.cells cs 28 (0, 0))) (hcs : cs = (G.flatMap gv).toArray) (hl : G.length ≤ 1048576) (hG : ∀ p ∈ G, Ge W p.1 p.2) :
    Kd.C k28 W (some ⟨b, 0, none⟩) (G.map (·.1)).length (G.map (·.1)) := by
  subst hcs
  refine ⟨rfl, by rw [List.length_map]; omega, fun h0 => ⟨⟨b, 0, none⟩, rfl, fun j s hj => ?_⟩⟩
  rw [List.getElem?_map] at hj
  cases hg : G[j]? with
  | none => rw [hg] at hj; cases hj
  | some p =>
    rw [hg] at hj
    simp at hj
    subst hj
    have hE : Ge W p.1 p.2 := hG p (List.mem_of_getElem? hg)
    refine ⟨gv p, rfl, k28_mk W p.1 hE.hs hE.s hE.hd hE.di hE.hx hE.ex, fun i u hu => ?_⟩
    have hi : i < 3 := by
      rcases Nat.lt_or_ge i 3 with h3 | h3
      · exact h3
      · rw [List.getElem?_eq_none (by simpa [gv] using h3)] at hu; cases hu
    rw [add_plain, blk_cell hb]
    simp only [List.getElem?_toArray, Nat.zero_add]
    exact (gv_get G j i p hg hi).trans hu
def JoinA (W : World) (b n : Nat) (S : List S80) (D X : List Int) (er : Int) : Prop :=
  Calls Try.prog 47 #[.slice (some ⟨b, 0, none⟩) n n] W fun e w' => ∃ B0 b0 B1 b1 B2 b2, e = .returned (.tuple #[.agg #[.slice B0 S.length b0, .slice B1 D.length b1, .slice B2 X.length b2], .int .i64 er]) ∧ EdC w' B0 b0 S B1 b1 D B2 b2 X ∧ Below W.heap.size W w'
theorem JoinA.run {W : World} {b n : Nat} {S : List S80} {D X : List Int} {er : Int} (h : JoinA W b n S D X er) : Calls Try.prog 47 #[.slice (some ⟨b, 0, none⟩) n n] W fun e w' => ∃ B0 b0 B1 b1 B2 b2, e = .returned (.tuple #[.agg #[.slice B0 S.length b0, .slice B1 D.length b1, .slice B2 X.length b2], .int .i64 er]) ∧ EdC w' B0 b0 S B1 b1 D B2 b2 X ∧ Below W.heap.size W w' := h
theorem join_lit {W : World} {b : Nat} (G : List (S28 × Gx)) {cs : Array Value} (hb : W.heap[b]? = some (.cells cs 28 (0, 0))) (hcs : cs = (G.flatMap gv).toArray) (hl : G.length ≤ 1048576) (hG : ∀ p ∈ G, Ge W p.1 p.2) {L : List S28} (hL : L = G.map (·.1)) {n : Nat} (hn : n = G.length)
    {S : List S80} {D X : List Int} {er : Int} (hr : joinE L = (S, D, X, er)) : JoinA W b n S D X er := by
  subst hL
  have hC := C28_lit G hb hcs hl hG
  have hn' : (G.map (·.1)).length = n := by rw [List.length_map, hn]
  have h := join_c (c := n) hC (by omega) (by rw [List.length_map]; exact hl)
  rw [hr, hn'] at h
  refine Calls.mono h ?_
  intro e w' h
  obtain ⟨B0, b0, B1, b1, B2, b2, he, h3, hb⟩ := h.ed3
  exact ⟨B0, b0, B1, b1, B2, b2, he, h3.edc, hb⟩
theorem join1_m {W : World} {b : Nat} {A0 : Option Addr} {c0 : Nat} {st : List S80} {A1 : Option Addr} {c1 : Nat} {d : List Int} {A2 : Option Addr} {c2 : Nat} {x : List Int} {S : List S80} {D X : List Int} {er : Int}
    (hb : W.heap[b]? = some (.cells #[.slice A0 st.length c0, .slice A1 d.length c1, .slice A2 x.length c2] 28 (0, 0))) (hE : EdC W A0 c0 st A1 c1 d A2 c2 x) (hr : joinE [⟨st, d, x⟩] = (S, D, X, er)) : JoinA W b 1 S D X er :=
  join_lit [(⟨st, d, x⟩, ⟨A0, c0, A1, c1, A2, c2⟩)] hb rfl (by simp) (fun p hp => by
    simp only [List.mem_cons, List.not_mem_nil, or_false] at hp
    subst hp
    exact hE) rfl rfl hr
theorem join2_m {W : World} {b : Nat} {A0 : Option Addr} {c0 : Nat} {st : List S80} {A1 : Option Addr} {c1 : Nat} {d : List Int} {A2 : Option Addr} {c2 : Nat} {x : List Int} {D0 : Option Addr} {g0 : Nat} {sb : List S80} {D1 : Option Addr} {g1 : Nat} {db : List Int} {D2 : Option Addr} {g2 : Nat} {xb : List Int} {S : List S80} {D X : List Int} {er : Int}
    (hb : W.heap[b]? = some (.cells #[.slice A0 st.length c0, .slice A1 d.length c1, .slice A2 x.length c2, .slice D0 sb.length g0, .slice D1 db.length g1, .slice D2 xb.length g2] 28 (0, 0))) (hE : EdC W A0 c0 st A1 c1 d A2 c2 x) (hG : EdC W D0 g0 sb D1 g1 db D2 g2 xb)
    (hr : joinE [⟨st, d, x⟩, ⟨sb, db, xb⟩] = (S, D, X, er)) : JoinA W b 2 S D X er :=
  join_lit [(⟨st, d, x⟩, ⟨A0, c0, A1, c1, A2, c2⟩), (⟨sb, db, xb⟩, ⟨D0, g0, D1, g1, D2, g2⟩)] hb rfl (by simp) (fun p hp => by
    simp only [List.mem_cons, List.not_mem_nil, or_false] at hp
    rcases hp with rfl | rfl
    · exact hE
    · exact hG) rfl rfl hr
theorem join3_m {W : World} {b : Nat} {A0 : Option Addr} {c0 : Nat} {st : List S80} {A1 : Option Addr} {c1 : Nat} {d : List Int} {A2 : Option Addr} {c2 : Nat} {x : List Int} {D0 : Option Addr} {g0 : Nat} {sb : List S80} {D1 : Option Addr} {g1 : Nat} {db : List Int} {D2 : Option Addr} {g2 : Nat} {xb : List Int}
    {F0 : Option Addr} {h0 : Nat} {sc : List S80} {F1 : Option Addr} {h1 : Nat} {dc : List Int} {F2 : Option Addr} {h2 : Nat} {xc : List Int} {S : List S80} {D X : List Int} {er : Int}
    (hb : W.heap[b]? = some (.cells #[.slice A0 st.length c0, .slice A1 d.length c1, .slice A2 x.length c2, .slice D0 sb.length g0, .slice D1 db.length g1, .slice D2 xb.length g2, .slice F0 sc.length h0, .slice F1 dc.length h1, .slice F2 xc.length h2] 28 (0, 0)))
    (hE : EdC W A0 c0 st A1 c1 d A2 c2 x) (hG : EdC W D0 g0 sb D1 g1 db D2 g2 xb) (hH : EdC W F0 h0 sc F1 h1 dc F2 h2 xc)
    (hr : joinE [⟨st, d, x⟩, ⟨sb, db, xb⟩, ⟨sc, dc, xc⟩] = (S, D, X, er)) : JoinA W b 3 S D X er :=
  join_lit [(⟨st, d, x⟩, ⟨A0, c0, A1, c1, A2, c2⟩), (⟨sb, db, xb⟩, ⟨D0, g0, D1, g1, D2, g2⟩), (⟨sc, dc, xc⟩, ⟨F0, h0, F1, h1, F2, h2⟩)] hb rfl (by simp) (fun p hp => by
    simp only [List.mem_cons, List.not_mem_nil, or_false] at hp
    rcases hp with rfl | rfl | rfl
    · exact hE
    · exact hG
    · exact hH) rfl rfl hr
/-! ### what it means -/
theorem joinE_ok {L : List S28} {S : List S80} {D X : List Int} (h : joinE L = (S, D, X, 0)) : (∀ e ∈ L, (ited e.f0 e.f1 e.f2).2 = 0) ∧ szJ L ≤ 16777216 ∧ normOf (ogJ L) = (S, D, X, 0) := by
  unfold joinE at h
  by_cases h0 : badJ L ≠ 0
  · rw [if_pos h0] at h
    exact absurd (congrArg (fun q => q.2.2.2) h) h0
  · rw [if_neg h0] at h
    have hb := badJ_ok (by simpa using h0)
    by_cases h1 : 16777216 < szJ L
    · rw [if_pos h1] at h
      exact absurd (congrArg (fun q => q.2.2.2) h) (by simp)
    · rw [if_neg h1] at h
      exact ⟨hb, by omega, h⟩
theorem joinE_bad {L : List S28} {S : List S80} {D X : List Int} {er : Int} (h : joinE L = (S, D, X, er)) (he : er ≠ 0) : S = [] := by
  unfold joinE at h
  by_cases h0 : badJ L ≠ 0
  · rw [if_pos h0] at h
    exact (congrArg Prod.fst h).symm
  · rw [if_neg h0] at h
    by_cases h1 : 16777216 < szJ L
    · rw [if_pos h1] at h
      exact (congrArg Prod.fst h).symm
    · rw [if_neg h1] at h
      have := normOf_bad (L := ogJ L) (by rw [h]; exact he)
      rw [h] at this
      exact congrArg Prod.fst this
theorem ogJ_can (L : List S28) : Can (ogJ L) := by
  intro o ho
  obtain ⟨e, _, he⟩ := List.mem_flatMap.1 ho
  exact og_can _ _ _ _ o he
theorem badJ_one (e : S28) : badJ [e] = (ited e.f0 e.f1 e.f2).2 := by
  rw [badJ, badJ]
  by_cases h0 : (ited e.f0 e.f1 e.f2).2 ≠ 0
  · rw [if_pos h0]
  · rw [if_neg h0]
    exact (by simpa using h0 : (ited e.f0 e.f1 e.f2).2 = 0).symm
theorem join_one (e : S28) : joinE [e] = normalE e.f0 e.f1 e.f2 := by
  have hb := badJ_one e
  unfold joinE normalE
  by_cases h0 : (ited e.f0 e.f1 e.f2).2 = 0
  · have hs := ited_size h0
    rw [if_neg (show ¬ badJ [e] ≠ 0 from fun h => h (hb.trans h0)), if_neg (show ¬ 16777216 < szJ [e] by simp only [szJ]; omega), if_neg (show ¬ (ited e.f0 e.f1 e.f2).2 ≠ 0 from fun h => h h0)]
    simp [ogJ]
  · rw [if_pos (show badJ [e] ≠ 0 from fun h => h0 (hb.symm.trans h)), if_pos (show (ited e.f0 e.f1 e.f2).2 ≠ 0 from h0), hb]
/-- What a joined edit means. -/
theorem join_means {L : List S28} {S : List S80} {D X : List Int} (h : joinE L = (S, D, X, 0)) : og S D X 0 = ogJ L ∧ (ited S D X).2 = 0 ∧ Mid (ogJ L) ∧ ∀ e ∈ L, (ited e.f0 e.f1 e.f2).2 = 0 ∧ Mid (og e.f0 e.f1 e.f2 0) := by
  obtain ⟨hk, hs, hn⟩ := joinE_ok h
  have hl : (ogJ L).length ≤ 16777216 := by rw [ogJ_len L hk]; exact hs
  obtain ⟨ho, hi⟩ := normOf_og (ogJ_can L) hl hn
  have hm := normOf_mid (ogJ_can L) hl hn
  refine ⟨ho, by rw [hi], hm, fun e he => ⟨hk e he, fun o hoo => hm o (List.mem_flatMap.2 ⟨e, he, hoo⟩)⟩⟩
theorem ogJ_two (a b : S28) : ogJ [a, b] = og a.f0 a.f1 a.f2 0 ++ og b.f0 b.f1 b.f2 0 := by simp [ogJ]
theorem ogJ_three (a b c : S28) : ogJ [a, b, c] = og a.f0 a.f1 a.f2 0 ++ (og b.f0 b.f1 b.f2 0 ++ og c.f0 c.f1 c.f2 0) := by simp [ogJ]
theorem join_apply {a b : S28} {S : List S80} {D X : List Int} {old : List Int} (h : joinE [a, b] = (S, D, X, 0)) (ha : appliedE old a.f0 a.f1 a.f2 = 0) (hb : appliedE old b.f0 b.f1 b.f2 = 0) :
    appliedE old S D X = 0 ∧ applied old S D X = applied old a.f0 a.f1 a.f2 ++ applied old b.f0 b.f1 b.f2 := by
  obtain ⟨ho, hi, hm, he⟩ := join_means h
  have ia := applied_mid (he a (by simp)).2 ha
  have ib := applied_mid (he b (by simp)).2 hb
  rw [ogJ_two] at ho hm
  have hin : Inn old.length (og S D X 0) := by rw [ho]; exact inn_app.2 ⟨ia, ib⟩
  have hr := (rds_inn old.length S D X 0 (ited_all hi).1 (by rw [ho]; exact hm)).2 hin
  have h0 := appliedE_mk (appliedE_ok ha).1 hi hr
  refine ⟨h0, ?_⟩
  rw [applied_ok h0, applied_ok ha, applied_ok hb, ho, List.map_append]
theorem join_groups {a b c : S28} {S : List S80} {D X : List Int} {P : List S80} {Q R : List Int} {T : List S80} {U V : List Int} (h : joinE [a, b] = (S, D, X, 0)) (h1 : joinE [⟨S, D, X⟩, c] = (P, Q, R, 0)) (h2 : joinE [a, b, c] = (T, U, V, 0)) : P = T ∧ Q = U ∧ R = V := by
  obtain ⟨ho, _, _, _⟩ := join_means h
  have n1 := (joinE_ok h1).2.2
  have n2 := (joinE_ok h2).2.2
  rw [ogJ_two] at n1 ho
  simp only at n1
  rw [ho, List.append_assoc, ← ogJ_three, n2] at n1
  simp only [Prod.mk.injEq, and_true] at n1
  exact ⟨n1.1.symm, n1.2.1.symm, n1.2.2.symm⟩
end Go.Proofs.Ytemlbjpefomboaa
