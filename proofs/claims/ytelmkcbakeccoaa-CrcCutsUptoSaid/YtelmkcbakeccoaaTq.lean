/- crc: the reference's Sum; twin: parts in memory of their own. -/
import Derived.Test.YtelmkcbakeccoaaOz
import Derived.Deep.Onto
namespace Go.Proofs.Ytelmkcbakeccoaa
open Go.RowKit Go.Proofs.YtelmkcbakeccoaaW.PrintWords Go.Proofs.YtelmkcbakeccoaaW.PrintLast Go.Proofs.YtelmkcbakeccoaaW.PrintMore
set_option linter.unusedVariables false
set_option linter.unusedSimpArgs false
set_option maxHeartbeats 1000000 in
theorem rsum_calls (A : Option Addr) (n c : Nat) (l : List (List Int)) (w : World) (hP : Ps w A n l) (hc : n ≤ c) :
    Calls Try.prog 23 #[.slice A n c] w fun e w' => e = .returned (.int .u32 (W (sumOf l))) ∧ w' = w := by
  have hm := hP.max
  have HP := Hd.mk hP
  clear hP
  go_enter Try.func23, Try.ntmps23
  go_wp2
  go_loopg [3, 4] n (fun k u y w'' => w'' = w ∧ ∃ j : Nat, y = .int .i64 j ∧ j + k = n ∧ u = .int .u32 (W (runL (BitVec.allOnes 32) (l.take j))))
  case atStart => exact ⟨rfl, 0, rfl, by omega, by rw [List.take_zero, show W (runL (BitVec.allOnes 32) []) = 4294967295 by decide]⟩
  case round =>
    obtain ⟨rfl, j, rfl, hj, rfl⟩ := hrel
    rcases Nat.eq_zero_or_pos gk with rfl | hp
    · obtain rfl : j = n := by omega
      have HS := Hd.mk (show ~~~ runL (BitVec.allOnes 32) (l.take j) = sumOf l by rw [List.take_of_length_le (by have := HP.out.len; omega)]; rfl)
      obtain ⟨q, eq⟩ : ∃ q, runL (BitVec.allOnes 32) (l.take j) = q := ⟨_, rfl⟩
      rw [eq] at HS ⊢
      clear eq
      go_wp2
      go_ret
      refine ⟨?_, rfl⟩
      rw [W_not, HS.out]
      rfl
    · obtain ⟨k, rfl⟩ : ∃ k, gk = k + 1 := ⟨gk - 1, by omega⟩
      obtain ⟨ad, B, m, d, hA, hcell, hB⟩ := HP.out.at_ j (by omega)
      subst hA
      have HB := Hd.mk hB
      have HS := Hd.mk (runL_snoc l (BitVec.allOnes 32) j (by have := HP.out.len; omega))
      obtain ⟨q, eq⟩ : ∃ q, runL (BitVec.allOnes 32) (l.take j) = q := ⟨_, rfl⟩
      rw [eq] at HS ⊢
      clear eq hB
      go_wp2_with fail
      go_at_call 37
      refine (rrun_calls _ _ _ _ _ _ HB.out.C HB.out.hc HB.out.hr).mono ?_
      rintro e w1 ⟨rfl, rfl⟩
      go_wp2
      go_roundg k
      case measure => omega
      case rel => exact ⟨rfl, j + 1, by go_num, by omega, by rw [HS.out, List.getD_eq_getElem?_getD]⟩

theorem eltBB : Elt Try.prog 31 23 (.slice none 0 0) 1 24 := ⟨Try.underlying31, by kernel_rfl, rfl, by decide, by decide⟩
/-- rows that belong to the call, each with a part's bytes -/
def Fam (w : World) (base : Nat) (vs : List Value) (l : List (List Int)) : Prop := ∀ i, i < vs.length → OB w base (vs.getD i undef) (l.getD i [])
def TwinPost (w : World) (n : Nat) (l : List (List Int)) (e : Ending) (w' : World) : Prop :=
  ∃ (A : Option Addr) (c : Nat), e = .returned (.slice A n c) ∧ n ≤ c ∧ Ps w' A n l ∧ Below w.heap.size w w'
theorem twin_end {w : World} {base n : Nat} {v : Value} {vs : List Value} {l : List (List Int)} (h : w.ownsRow base 23 1 v n vs) (hf : Fam w base vs l) (hl : l.length = n) (hr : ∀ x ∈ l, ∀ y ∈ x, 0 ≤ y ∧ y ≤ 255) (hm : n ≤ 9223372036854775807) :
    ∃ A c, v = .slice A n c ∧ n ≤ c ∧ Ps w A n l := by
  have hvl : vs.length = n := by have := h.1; omega
  rcases h.2 with ⟨rfl, rfl⟩ | ⟨g, cap, cur, rfl, hb, hg, hc, _, hs, ht⟩
  · exact ⟨none, 0, rfl, by omega, hl, by omega, fun j hj => by omega⟩
  · refine ⟨_, cap, rfl, hc, hl, hm, fun j hj => ?_⟩
    have hO := hf j (by omega)
    obtain ⟨A, c, e, hB⟩ := OB.bs hO (hr _ (by rw [List.getD_eq_getElem?_getD, List.getElem?_eq_getElem (by omega), Option.getD_some]; exact List.getElem_mem _))
    refine ⟨_, A, _, c, rfl, ?_, hB⟩
    rw [← e, add_plain, cell_of_row w g j cur _ (0, 0) hg]
    have hj' : j < cur.size := by omega
    have : vs.getD j undef = cur[j] := by
      rw [← ht, List.getD_eq_getElem?_getD, List.getElem?_take, if_pos (by omega)]
      simp [hj']
    rw [this]
    simp [hj']
set_option maxHeartbeats 2000000 in
theorem twin_calls (A : Option Addr) (n c : Nat) (l : List (List Int)) (w : World) (hP : Ps w A n l) (hc : n ≤ c) (hn : n * 24 ≤ 140737488351232) (hl : ∀ x ∈ l, x.length ≤ 140737488351232) (hr : ∀ x ∈ l, ∀ y ∈ x, 0 ≤ y ∧ y ≤ 255) :
    Calls Try.prog 24 #[.slice A n c] w fun e w' => TwinPost w n l e w' := by
  have HP := Hd.mk hP
  have HL := Hd.mk hl
  have HR := Hd.mk hr
  clear hP hl hr
  go_enter Try.func24, Try.ntmps24
  go_wp2
  go_loopg [3, 4] n (fun k u y w'' => ∃ (j : Nat) (vs : List Value), y = .int .i64 j ∧ j + k = n ∧ Hd (w''.ownsRow w.heap.size 23 1 u j vs) ∧ Hd (Fam w'' w.heap.size vs l) ∧ Hd (Below w.heap.size w w''))
  case atStart => exact ⟨0, [], rfl, by omega, ⟨own_nil _ _ _ _⟩, ⟨fun i hi => by simp at hi⟩, ⟨Below.refl _ _⟩⟩
  case round =>
    obtain ⟨j, vs, rfl, hj, HO, HF, HW⟩ := hrel
    rcases Nat.eq_zero_or_pos gk with rfl | hp
    · obtain rfl : j = n := by omega
      obtain ⟨B, c2, eB, hc2, hP2⟩ := twin_end HO.out HF.out HP.out.len HR.out HP.out.max
      subst eB
      have HP2 := Hd.mk hP2
      clear hP2
      go_wp2
      go_ret
      exact ⟨B, c2, rfl, hc2, HP2.out, HW.out⟩
    · obtain ⟨k, rfl⟩ : ∃ k, gk = k + 1 := ⟨gk - 1, by omega⟩
      obtain ⟨ad, B, m, d, hA, hcell, hB⟩ := (HP.out.below HW.out).at_ j (by omega)
      subst hA
      have hml : m ≤ 140737488351232 := by
        rw [← hB.len]
        exact HL.out _ (by have := HP.out.len; rw [List.getD_eq_getElem?_getD, List.getElem?_eq_getElem (by omega), Option.getD_some]; exact List.getElem_mem _)
      have HB := Hd.mk hB
      have hws := HW.out.size
      clear hB
      go_wp2_with (first
        | (at_builtin; refine wpList_copy rfl _ _ rfl rfl rfl HB.out hml ?_; intro A2 c2 w2 g1 g2 g3; have hw2 := g3.out.size)
        | (at_builtin; refine wpList_app (v := u3) (n := j) (xs := vs) (m := 1) (news := [.slice A2 m c2]) rfl _ _ _ rfl w.heap.size eltBB rfl rfl ((pw_own_below HO.out g3.out).alloc _) (Src.one _ _ _ rfl) (by omega) (by simp; omega) ?_; intro v3 w3 f1 f2 f3 _))
      go_roundg k
      case measure => omega
      case rel =>
        have hvl : vs.length = j := by have := HO.out.1; omega
        have HOa := (pw_own_below HO.out g3.out).alloc (.cells #[.slice A2 m c2] 23)
        have hbw := below_step HW.out g3.out
        refine ⟨j + 1, vs ++ [.slice A2 m c2], by go_num, by omega, f1, ⟨?_⟩, ⟨(hbw.alloc hbw.size _).grown f2.out (by have := hbw.size; simp; omega) (fun k hk => own_base HO.out k hk)⟩⟩
        intro i hi
        rcases Nat.lt_or_ge i j with h1 | h1
        · rw [List.getD_eq_getElem?_getD, List.getElem?_append_left (by omega), ← List.getD_eq_getElem?_getD]
          have hA := (pw_own_below (HF.out i (by omega)) g3.out).alloc (.cells #[.slice A2 m c2] 23)
          exact hA.kept f2.out (own_type_ne hA HOa (by decide))
        · obtain rfl : i = j := by simp at hi; omega
          rw [List.getD_eq_getElem?_getD, List.getElem?_append_right (by omega), hvl, Nat.sub_self]
          have hA := ((World.ownsRow.mono g1.out hws).alloc (.cells #[.slice A2 m c2] 23))
          exact hA.kept f2.out (own_type_ne hA HOa (by decide))

set_option maxHeartbeats 1000000 in
theorem same2_calls (A : Option Addr) (n c : Nat) (B : Option Addr) (d : Nat) (l : List (List Int)) (w : World) (hP : Ps w A n l) (hQ : Ps w B n l) (hc : n ≤ c) (hd : n ≤ d) :
    Calls Try.prog 25 #[.slice A n c, .slice B n d] w fun e w' => e = .returned (.bool true) ∧ Below w.heap.size w w' := by
  have hm := hP.max
  have HP := Hd.mk hP
  have HQ := Hd.mk hQ
  clear hP hQ
  go_enter Try.func25, Try.ntmps25
  go_wp2
  go_loopg [5] n (fun k y w'' => Hd (Below w.heap.size w w'') ∧ ∃ j : Nat, y = .int .i64 j ∧ j + k = n)
  case atStart => exact ⟨⟨Below.refl _ _⟩, 0, rfl, by omega⟩
  case round =>
    obtain ⟨HW, j, rfl, hj⟩ := hrel
    rcases Nat.eq_zero_or_pos gk with rfl | hp
    · obtain rfl : j = n := by omega
      go_wp2
      go_ret
      exact ⟨rfl, HW.out⟩
    · obtain ⟨k, rfl⟩ : ∃ k, gk = k + 1 := ⟨gk - 1, by omega⟩
      obtain ⟨ad, C, m, q, hA, hcell, hB⟩ := (HP.out.below HW.out).at_ j (by omega)
      obtain ⟨ad', C', m', q', hA', hcell', hB'⟩ := (HQ.out.below HW.out).at_ j (by omega)
      subst hA hA'
      have HB := Hd.mk hB
      have HB' := Hd.mk hB'
      clear hB hB'
      have hjn : j < n := by omega
      have HBd := Hd.mk (HB.out.below ((Below.refl wr.heap.size wr).drew))
      have HBd' := Hd.mk (HB'.out.below ((Below.refl wr.heap.size wr).drew))
      go_wp2_with fail
      refine start_ (n := 10) (S := fun w' => w'.cell? (ad.add j) = some (.slice C m q) ∧ w'.cell? (ad'.add j) = some (.slice C' m' q')) (ds := []) #[false, false, false, false, false, false, false, false, false, false] (by kernel_rfl) rfl rfl ⟨hcell, hcell'⟩ (fun hHeld => ?_)
      refine pure_ (i := 0) (N := some 12) (v := ?_) (a' := ?_) #[true, false, false, false, false, false, false, false, false, false] rfl rfl (by kernel_rfl) (fun _ _ _ h => h) (Or.inl ⟨by rfl, ?_⟩) ?_ ?_
      rotate_left
      · intro w'
        go_simp
        with_reducible rfl
      rotate_left
      · simp only [Act.put, List.setIfInBounds_toArray, List.set_cons_zero, List.set_cons_succ, i64_w, i32_w]
        rfl
      refine pure_ (i := 1) (N := some 13) (v := ?_) (a' := ?_) #[true, true, false, false, false, false, false, false, false, false] rfl rfl (by kernel_rfl) (fun _ _ _ h => h) (Or.inl ⟨by rfl, ?_⟩) ?_ ?_
      rotate_left
      · intro w'
        go_simp
        with_reducible rfl
      rotate_left
      · simp only [Act.put, List.setIfInBounds_toArray, List.set_cons_zero, List.set_cons_succ, i64_w, i32_w]
        rfl
      refine pure_ (i := 2) (N := some 14) (v := ?_) (a' := ?_) #[true, true, true, false, false, false, false, false, false, false] rfl rfl (by kernel_rfl) (fun _ _ _ h => h) (Or.inl ⟨by rfl, ?_⟩) ?_ ?_
      rotate_left
      · intro w'
        go_simp
        with_reducible rfl
      rotate_left
      · simp only [Act.put, List.setIfInBounds_toArray, List.set_cons_zero, List.set_cons_succ, i64_w, i32_w]
        rfl
      refine pure_ (i := 4) (N := some 16) (v := ?_) (a' := ?_) #[true, true, true, false, true, false, false, false, false, false] rfl rfl (by kernel_rfl) (fun _ _ _ h => h) (Or.inl ⟨by rfl, ?_⟩) ?_ ?_
      rotate_left
      · intro w'
        go_simp
        with_reducible rfl
      rotate_left
      · simp only [Act.put, List.setIfInBounds_toArray, List.set_cons_zero, List.set_cons_succ, i64_w, i32_w]
        rfl
      refine pure_ (i := 5) (N := some 17) (v := ?_) (a' := ?_) #[true, true, true, false, true, true, false, false, false, false] rfl rfl (by kernel_rfl) (fun _ _ _ h => h) (Or.inl ⟨by rfl, ?_⟩) ?_ ?_
      rotate_left
      · intro w'
        go_simp
        with_reducible rfl
      rotate_left
      · simp only [Act.put, List.setIfInBounds_toArray, List.set_cons_zero, List.set_cons_succ, i64_w, i32_w]
        rfl
      refine pure_ (i := 6) (N := some 18) (v := ?_) (a' := ?_) #[true, true, true, false, true, true, true, false, false, false] rfl rfl (by kernel_rfl) (fun _ _ _ h => h) (Or.inl ⟨by rfl, ?_⟩) ?_ ?_
      rotate_left
      · intro w'
        go_simp
        with_reducible rfl
      rotate_left
      · simp only [Act.put, List.setIfInBounds_toArray, List.set_cons_zero, List.set_cons_succ, i64_w, i32_w]
        rfl
      refine take_ (i := 3) (N := some 15) (v := ?_) (a' := ?_) #[true, true, true, true, true, true, true, false, false, false] rfl rfl (by kernel_rfl) (fun _ _ _ h => h) (Or.inl ⟨by rfl, ?_⟩) hHeld ?_ ?_
      rotate_left
      · rintro w' ⟨s0, s1⟩
        go_simp
        with_reducible rfl
      rotate_left
      · simp only [Act.put, List.setIfInBounds_toArray, List.set_cons_zero, List.set_cons_succ, i64_w, i32_w]
        rfl
      refine take_ (i := 7) (N := some 19) (v := ?_) (a' := ?_) #[true, true, true, true, true, true, true, true, false, false] rfl rfl (by kernel_rfl) (fun _ _ _ h => h) (Or.inl ⟨by rfl, ?_⟩) hHeld ?_ ?_
      rotate_left
      · rintro w' ⟨s0, s1⟩
        go_simp
        with_reducible rfl
      rotate_left
      · simp only [Act.put, List.setIfInBounds_toArray, List.set_cons_zero, List.set_cons_succ, i64_w, i32_w]
        rfl
      refine one_ (i := 8) (N := some 20) #[true, true, true, true, true, true, true, true, true, false] rfl rfl (by kernel_rfl) (by decide) (fun K hK => ?_)
      refine goes_ Try.func19 (by kernel_rfl) rfl #[.slice C m q, .slice C' m' q'] (by rfl) rfl rfl (by simp only [List.map_toArray, List.map_cons, List.map_nil]; rfl) ?_
      with_reducible refine (same_yes _ _ _ (l.getD j []) _ _ _ _ HBd.out HBd'.out).mono ?_
      rintro e w3 ⟨rfl, rfl⟩
      refine ⟨_, rfl, ?_⟩
      refine hK.out _ _ ⟨hcell, hcell'⟩ (fun hHeld => ?_)
      clear hK K
      refine norm_ (a' := ?_) ?_ ?_
      rotate_left
      · show Act.put _ (some 20) _ = _
        simp only [Act.put, List.setIfInBounds_toArray, List.set_cons_zero, List.set_cons_succ, i64_w, i32_w]
        rfl
      refine pure_ (i := 9) (N := some 21) (v := ?_) (a' := ?_) #[true, true, true, true, true, true, true, true, true, true] rfl rfl (by kernel_rfl) (fun _ _ _ h => h) (Or.inl ⟨by rfl, ?_⟩) ?_ ?_
      rotate_left
      · intro w'
        go_simp
        with_reducible rfl
      rotate_left
      · simp only [Act.put, List.setIfInBounds_toArray, List.set_cons_zero, List.set_cons_succ, i64_w, i32_w]
        rfl
      refine done_ (by kernel_rfl) ?_
      go_wp2
      go_roundg k
      case measure => omega
      case rel => exact ⟨⟨HW.out.drew⟩, j + 1, by go_num, by omega⟩

theorem Ps.range {w : World} {A : Option Addr} {n : Nat} {l : List (List Int)} (h : Ps w A n l) : ∀ x ∈ l, ∀ y ∈ x, 0 ≤ y ∧ y ≤ 255 := by
  intro x hx
  obtain ⟨i, hi, rfl⟩ := List.getElem_of_mem hx
  obtain ⟨_, _, _, _, _, _, hB⟩ := h.at_ i (by have := h.len; omega)
  have := hB.hr
  simpa [List.getD_eq_getElem?_getD, hi] using this
set_option maxHeartbeats 2000000 in
theorem walk_crcSums (a0 : Option Addr) (n0 c0 : Nat) (l : List (List Int)) (w : World) (hP : Ps w a0 n0 l) (hc : n0 ≤ c0) (hn : n0 * 24 ≤ 140737488351232) (hl : ∀ x ∈ l, x.length ≤ 140737488351232) :
    Calls Try.prog 5 #[.slice a0 n0 c0] w fun e w' => e = .returned (.bool true) ∧ Below w.heap.size w w' := by
  have HP := Hd.mk hP
  have HL := Hd.mk hl
  have HR := Hd.mk hP.range
  obtain ⟨u, eu⟩ : ∃ u, W (sumOf l) = u := ⟨_, rfl⟩
  have HS : Hd (∀ (A : Option Addr) (n c : Nat) (w : World), Ps w A n l → n ≤ c → Calls Try.prog 22 #[.slice A n c] w fun e w' => e = .returned (.int .u32 u) ∧ Below w.heap.size w w') := ⟨fun A n c w h1 h2 => eu ▸ sum_calls A n c l w h1 h2⟩
  have HS' : Hd (∀ (A : Option Addr) (n c : Nat) (w : World), Ps w A n l → n ≤ c → Calls Try.prog 23 #[.slice A n c] w fun e w' => e = .returned (.int .u32 u) ∧ w' = w) := ⟨fun A n c w h1 h2 => eu ▸ rsum_calls A n c l w h1 h2⟩
  clear hP hl eu
  go_enter Try.func5, Try.ntmps5
  go_wp2_with fail
  go_at_call 23
  refine (HS'.out _ _ _ _ HP.out hc).mono ?_
  rintro e w' ⟨rfl, rfl⟩
  go_wp2_with fail
  go_at_call 24
  refine (twin_calls _ _ _ _ _ HP.out hc hn HL.out HR.out).mono ?_
  rintro e w1 ⟨B, c2, rfl, hc2, h1, h2⟩
  have HQ := Hd.mk h1
  have HP1 := Hd.mk (HP.out.below h2)
  have H1 := Hd.mk h2
  clear h1 h2
  go_wp2_with fail
  go_at_call 22
  refine (HS.out _ _ _ _ HQ.out hc2).mono ?_
  rintro e w2 ⟨rfl, h2⟩
  have HQ2 := Hd.mk (HQ.out.below h2)
  have HP2 := Hd.mk (HP1.out.below h2)
  have H2 := Hd.mk (below_step H1.out h2)
  clear h2
  go_wp2_with fail
  go_at_call 22
  refine (HS.out _ _ _ _ HQ2.out hc2).mono ?_
  rintro e w3 ⟨rfl, h3⟩
  have HQ3 := Hd.mk (HQ2.out.below h3)
  have HP3 := Hd.mk (HP2.out.below h3)
  have H3 := Hd.mk (below_step H2.out h3)
  clear h3
  go_wp2_with fail
  go_at_call 25
  refine (same2_calls _ _ _ _ _ l _ HQ3.out HP3.out hc2 hc).mono ?_
  rintro e w4 ⟨rfl, h4⟩
  have H4 := Hd.mk (below_step H3.out h4)
  clear h4
  go_wp2
  go_ret
  exact ⟨rfl, H4.out⟩
end Go.Proofs.Ytelmkcbakeccoaa
