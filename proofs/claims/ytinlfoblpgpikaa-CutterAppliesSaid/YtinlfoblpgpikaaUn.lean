/- cutter: Uncontrol, by contract. -/
import Derived.Test.YtinlfoblpgpikaaU1
import Derived.Test.YtinlfoblpgpikaaN3
namespace Go.Proofs.Ytinlfoblpgpikaa
open Go.RowKit Go.Shelf Go.Proofs.YtinlfoblpgpikaaW.PrintWords Go.Proofs.YtinlfoblpgpikaaW.PrintLast Go.Proofs.YtinlfoblpgpikaaW.PrintMore Go.Proofs.Ytinlfoblpgpikaa.Pr
set_option linter.unusedVariables false
set_option linter.unusedSimpArgs false
attribute [-go_sem] Builtin.append_
theorem lim_case {k : Nat} {L : Int} (h : lim k = L) (x : Int) : (L < x ∧ lim k < x) ∨ (x ≤ L ∧ ¬ lim k < x) := by omega
/-- What is known of the numbers of a step. -/
def VB (vs : List Int) : Prop := (0 ≤ gb vs 0 ∧ gb vs 0 ≤ 65536) ∧ (0 ≤ gb vs 1 ∧ gb vs 1 ≤ 65536) ∧ 0 ≤ gb vs 2 ∧ gb vs 2 ≤ 33554432
theorem gb_snoc (vs : List Int) (x : Int) (j : Nat) : gb (vs ++ [x]) j = if j = vs.length then x else gb vs j := by
  unfold gb
  simp only [List.getD_eq_getElem?_getD]
  rcases Nat.lt_trichotomy j vs.length with h | h | h
  · rw [if_neg (by omega), List.getElem?_append_left h]
  · subst h; simp
  · rw [if_neg (by omega), List.getElem?_eq_none (by simp; omega), List.getElem?_eq_none (by omega)]
theorem VB_snoc {vs : List Int} {x : Int} {i : Nat} (hi : vs.length = i) (hV : VB vs) (h0 : 0 ≤ x) (hL : (i ≠ 2 ∧ x ≤ 65536) ∨ (i = 2 ∧ x ≤ 33554432)) : VB (vs ++ [x]) := by
  unfold VB at *
  rw [gb_snoc, gb_snoc, gb_snoc, hi]
  refine ⟨?_, ?_, ?_⟩ <;> split <;> omega
theorem blk_vs {W : World} {g : Nat} {vs : List Int} {i : Nat} {x : Int} {t : TypeId} (hi : vs.length = i) (hi3 : i < 3) (h : W.heap[g]? = some (.cells #[.int .u64 (gb vs 0), .int .u64 (gb vs 1), .int .u64 (gb vs 2)] t)) :
    (W.setCell ⟨g, i, none⟩ (.int .u64 x)).heap[g]? = some (.cells #[.int .u64 (gb (vs ++ [x]) 0), .int .u64 (gb (vs ++ [x]) 1), .int .u64 (gb (vs ++ [x]) 2)] t) := by
  have := blk_set h i (.int .u64 x)
  rw [gb_snoc, gb_snoc, gb_snoc, hi, this]
  have hi : i = 0 ∨ i = 1 ∨ i = 2 := by omega
  rcases hi with rfl | rfl | rfl <;> simp
theorem Bs.fin {w : World} {A : Option Addr} {n c m : Nat} {b : List Int} (h : Bs w A n c b) (hm : m ≤ n) (h0 : n - m = 0) (A' : Option Addr) : Bs w A' (n - m) 0 (b.drop m) := by
  have e : b.drop m = [] := List.drop_eq_nil_of_le (by have := h.len; omega)
  rw [e, h0]
  exact ⟨⟨rfl, by simp, fun h => by simp at h⟩, Nat.le_refl _, fun x hx => by cases hx⟩
set_option maxRecDepth 100000 in
set_option maxHeartbeats 8000000 in
theorem uncontrol_c {A : Option Addr} {n c : Nat} {b : List Int} {w : World} (hB : Bs w A n c b) (hn : n ≤ 1000000000) :
    Calls Try.prog 34 #[.slice A n c] w fun e w' => ∃ v, e = .returned (.tuple #[v, .int .i64 (uncR b).2]) ∧ OS 82 w' w.heap.size v (uncR b).1 ∧ Below w.heap.size w w' := by
  have HB0 := Hd.mk hB
  clear hB
  go_enter Try.func34, Try.ntmps34
  go_wp2
  go_loopg [0, 4] n (fun k v0 v4 W => ∃ (A1 : Option Addr) (m c1 : Nat) (b1 : List Int) (l1 : List S82), v0 = .slice A1 m c1 ∧ m ≤ k ∧ Hd (Bs w A1 m c1 b1) ∧ Hd (unc (k + 1) b1 l1 = uncR b) ∧ Hd (l1.length + m ≤ n) ∧ Hd (OS 82 W w.heap.size v4 l1) ∧ Hd (Below w.heap.size w W))
  case atStart => exact ⟨A, n, c, b, [], rfl, Nat.le_refl _, HB0, ⟨by rw [uncR, HB0.out.len]⟩, ⟨by simp⟩, ⟨own_nil _ _ _ _⟩, ⟨Below.refl _ _⟩⟩
  case round =>
    obtain ⟨A1, m, c1, b1, l1, rfl, hk, HS, HU, HL, HO, HB⟩ := hrel
    have hm0 : m ≤ n := by have := HL.out; omega
    rcases Nat.eq_zero_or_pos m with rfl | hpos
    · have hgt : decide (((0 : Nat) : Int) > 0) = false := by decide
      have hb : b1 = [] := List.eq_nil_of_length_eq_zero HS.out.len
      subst hb
      have HR : Hd (uncR b = (l1, 0)) := ⟨by rw [← HU.out, unc_nil]⟩
      go_wp2
      go_ret2
      refine ⟨u4, by rw [HR.out]; rfl, by rw [HR.out]; exact HO.out, HB.out⟩
    · obtain ⟨g1, rfl⟩ : ∃ k, gk = k + 1 := ⟨gk - 1, by omega⟩
      have hgt : decide ((m : Int) > 0) = true := decide_eq_true (by omega)
      go_wp2
      obtain ⟨wo, rfl⟩ : ∃ v : World, v = wr := ⟨_, rfl⟩
      obtain ⟨g5, hg5⟩ : ∃ g, wo.heap.size = g := ⟨_, rfl⟩
      have hba := (Below.refl wo.heap.size wo).alloc (Nat.le_refl _) (.cells #[.int .u64 0, .int .u64 0, .int .u64 0] 107)
      have HG := Hd.mk hg5
      have HB1 := Hd.mk hba
      have hbn := blk_new wo (.cells #[.int .u64 0, .int .u64 0, .int .u64 0] 107)
      rw [hg5] at hbn ⊢
      have HY1 := Hd.mk hbn
      have HLm := HS.out.len
      clear hba hbn hg5
      go_loopg [0, 13] 3 (fun q v0 v13 W => ∃ (A2 : Option Addr) (m2 c2 : Nat) (b2 : List Int) (vs : List Int) (y : Int), v0 = .slice A2 m2 c2 ∧ v13 = .int .i64 y ∧ (vs.length + q = 3 ∧ y = vs.length) ∧ (m2 ≤ m ∧ (0 < vs.length → m2 < m)) ∧ Hd (Bs w A2 m2 c2 b2) ∧ Hd (un3 q b2 vs = un3 3 b1 []) ∧ Hd (VB vs) ∧ Hd (W.heap[g5]? = some (.cells #[.int .u64 (gb vs 0), .int .u64 (gb vs 1), .int .u64 (gb vs 2)] 107)) ∧ Hd (Below wo.heap.size wo W))
      case atStart => exact ⟨A1, m, c1, b1, [], 0, rfl, rfl, ⟨rfl, rfl⟩, ⟨Nat.le_refl _, fun h => absurd h (by simp)⟩, HS, ⟨rfl⟩, ⟨by simp [VB, gb]⟩, HY1, HB1⟩
      case round =>
        clear HB1 HY1
        obtain ⟨A2, m2, c2, b2, vs, y, rfl, rfl, ⟨hq, hy⟩, hm2, HS2, HN, HV, HY, HW⟩ := hrel
        have hm20 : m2 ≤ n := by omega
        rcases gk with _ | q
        · have h3 : vs.length = 3 := by omega
          obtain rfl : y = 3 := by omega
          have H3 := Hd.mk h3
          have HM := Hd.mk (hm2.2 (by omega))
          clear hq hy h3 hm2
          have hu3 : un3 3 b1 [] = (0, vs, b2) := by rw [← HN.out]; rfl
          have HU2 : Hd (unc (g1 + 1) b2 (l1 ++ [mkS vs]) = uncR b) := ⟨by
            rw [← HU.out, unc_go (k := g1 + 1) (b := b1) (by rw [HLm]; exact hpos) (by rw [hu3]), hu3]⟩
          clear hu3 HU HN
          obtain ⟨⟨v00, v01⟩, ⟨v10, v11⟩, v20, v21⟩ := HV.out
          have hbc := HY.out
          obtain ⟨s, hs⟩ : ∃ s, mkS vs = s := ⟨_, rfl⟩
          have hs' : (⟨gb vs 0, gb vs 1, zag (gb vs 2)⟩ : S82) = s := hs
          rw [hs] at HU2
          clear HV HY hs
          obtain ⟨x0, hx0⟩ : ∃ x, gb vs 0 = x := ⟨_, rfl⟩
          obtain ⟨x1, hx1⟩ : ∃ x, gb vs 1 = x := ⟨_, rfl⟩
          obtain ⟨x2, hx2⟩ : ∃ x, gb vs 2 = x := ⟨_, rfl⟩
          rw [hx0] at hs' hbc v00 v01
          rw [hx1] at hs' hbc v10 v11
          rw [hx2] at hs' hbc v20 v21
          clear hx0 hx1 hx2
          have HZ : Hd (∀ W, Calls Try.prog 54 #[.int .u64 x2] W fun e w' => e = .returned (.int .i64 (zag x2)) ∧ w' = W) := ⟨fun W => zag_calls x2 (by omega) (by omega) W⟩
          obtain ⟨z, hz⟩ : ∃ z, zag x2 = z := ⟨_, rfl⟩
          rw [hz] at hs' HZ
          subst hs'
          have hw0 : wrap64 x0 = x0 := by unfold wrap64; omega
          have hw1 : wrap64 x1 = x1 := by unfold wrap64; omega
          have c0 := blk_cell hbc 0
          have c1' := blk_cell hbc 1
          have c2' := blk_cell hbc 2
          simp at c0 c1' c2'
          have hbd := ((Below.refl wr.heap.size wr).alloc (Nat.le_refl _) (.cells #[.int .i64 x0, .int .i64 x1, .int .i64 z] 82)).drew
          have HBD := Hd.mk hbd
          have hno : ((wr.alloc (.cells #[.int .i64 x0, .int .i64 x1, .int .i64 z] 82)).drew).heap[wr.heap.size]? = some (.cells #[.int .i64 x0, .int .i64 x1, .int .i64 z] 82) := blk_new wr _
          have hbw := below_step HW.out hbd
          have hpo := pw_own_below HO.out hbw
          obtain ⟨v', w', hrun, ho', hg'⟩ := pushS (s := ⟨x0, x1, z⟩) elt82 hpo (by have := HB.out.size; have := hbw.size; omega) hno (by have := HL.out; omega)
          have hbx := below_step HB.out hbw
          have HOZ := Hd.mk ho'
          have HBZ := Hd.mk (hbx.grown hg' hbx.size (own_base HO.out))
          clear hz hbc hbd hno hbw hpo ho' hg' hbx v00 v01 v10 v11 v20 v21 HW HO HB
          go_upto_region 15 with fail
          refine start_ (n := 14) (S := fun w' => w'.cell? ⟨g5, 0, none⟩ = some (.int .u64 x0) ∧ w'.cell? ⟨g5, 1, none⟩ = some (.int .u64 x1) ∧ w'.cell? ⟨g5, 2, none⟩ = some (.int .u64 x2)) (ds := [12]) #[false, false, false, false, false, false, false, false, false, false, false, false, false, false] (by kernel_rfl) rfl rfl ⟨c0, c1', c2'⟩ (fun hHeld => ?_)
          refine pure_ (i := 0) (N := some 42) (v := ?_) (a' := ?_) #[true, false, false, false, false, false, false, false, false, false, false, false, false, false] rfl rfl (by kernel_rfl) (fun _ _ _ h => h) (Or.inl ⟨by rfl, ?_⟩) ?_ ?_
          rotate_left
          · intro w'
            go_simp
            with_reducible rfl
          rotate_left
          · simp only [Act.put, List.setIfInBounds_toArray, List.set_cons_zero, List.set_cons_succ, i64_w, i32_w]
            rfl
          refine pure_ (i := 1) (N := some 43) (v := ?_) (a' := ?_) #[true, true, false, false, false, false, false, false, false, false, false, false, false, false] rfl rfl (by kernel_rfl) (fun _ _ _ h => h) (Or.inl ⟨by rfl, ?_⟩) ?_ ?_
          rotate_left
          · intro w'
            go_simp
            with_reducible rfl
          rotate_left
          · simp only [Act.put, List.setIfInBounds_toArray, List.set_cons_zero, List.set_cons_succ, i64_w, i32_w]
            rfl
          refine pure_ (i := 4) (N := some 46) (v := ?_) (a' := ?_) #[true, true, false, false, true, false, false, false, false, false, false, false, false, false] rfl rfl (by kernel_rfl) (fun _ _ _ h => h) (Or.inl ⟨by rfl, ?_⟩) ?_ ?_
          rotate_left
          · intro w'
            go_simp
            with_reducible rfl
          rotate_left
          · simp only [Act.put, List.setIfInBounds_toArray, List.set_cons_zero, List.set_cons_succ, i64_w, i32_w]
            rfl
          refine pure_ (i := 7) (N := some 49) (v := ?_) (a' := ?_) #[true, true, false, false, true, false, false, true, false, false, false, false, false, false] rfl rfl (by kernel_rfl) (fun _ _ _ h => h) (Or.inl ⟨by rfl, ?_⟩) ?_ ?_
          rotate_left
          · intro w'
            go_simp
            with_reducible rfl
          rotate_left
          · simp only [Act.put, List.setIfInBounds_toArray, List.set_cons_zero, List.set_cons_succ, i64_w, i32_w]
            rfl
          refine take_ (i := 2) (N := some 44) (v := ?_) (a' := ?_) #[true, true, true, false, true, false, false, true, false, false, false, false, false, false] rfl rfl (by kernel_rfl) (fun _ _ _ h => h) (Or.inl ⟨by rfl, ?_⟩) hHeld ?_ ?_
          rotate_left
          · rintro w' ⟨s0, s1, s2⟩
            go_simp
            with_reducible rfl
          rotate_left
          · simp only [Act.put, List.setIfInBounds_toArray, List.set_cons_zero, List.set_cons_succ, i64_w, i32_w]
            rfl
          refine pure_ (i := 3) (N := some 45) (v := ?_) (a' := ?_) #[true, true, true, true, true, false, false, true, false, false, false, false, false, false] rfl rfl (by kernel_rfl) (fun _ _ _ h => h) (Or.inl ⟨by rfl, ?_⟩) ?_ ?_
          rotate_left
          · intro w'
            go_simp
            with_reducible rfl
          rotate_left
          · simp only [Act.put, List.setIfInBounds_toArray, List.set_cons_zero, List.set_cons_succ, i64_w, i32_w]
            rfl
          refine take_ (i := 5) (N := some 47) (v := ?_) (a' := ?_) #[true, true, true, true, true, true, false, true, false, false, false, false, false, false] rfl rfl (by kernel_rfl) (fun _ _ _ h => h) (Or.inl ⟨by rfl, ?_⟩) hHeld ?_ ?_
          rotate_left
          · rintro w' ⟨s0, s1, s2⟩
            go_simp
            with_reducible rfl
          rotate_left
          · simp only [Act.put, List.setIfInBounds_toArray, List.set_cons_zero, List.set_cons_succ, i64_w, i32_w]
            rfl
          refine pure_ (i := 6) (N := some 48) (v := ?_) (a' := ?_) #[true, true, true, true, true, true, true, true, false, false, false, false, false, false] rfl rfl (by kernel_rfl) (fun _ _ _ h => h) (Or.inl ⟨by rfl, ?_⟩) ?_ ?_
          rotate_left
          · intro w'
            go_simp
            with_reducible rfl
          rotate_left
          · simp only [Act.put, List.setIfInBounds_toArray, List.set_cons_zero, List.set_cons_succ, i64_w, i32_w]
            rfl
          refine take_ (i := 8) (N := some 50) (v := ?_) (a' := ?_) #[true, true, true, true, true, true, true, true, true, false, false, false, false, false] rfl rfl (by kernel_rfl) (fun _ _ _ h => h) (Or.inl ⟨by rfl, ?_⟩) hHeld ?_ ?_
          rotate_left
          · rintro w' ⟨s0, s1, s2⟩
            go_simp
            with_reducible rfl
          rotate_left
          · simp only [Act.put, List.setIfInBounds_toArray, List.set_cons_zero, List.set_cons_succ, i64_w, i32_w]
            rfl
          refine one_ (i := 9) (N := some 51) #[true, true, true, true, true, true, true, true, true, true, false, false, false, false] rfl rfl (by kernel_rfl) (by decide) (fun K hK => ?_)
          refine goes_ Try.func54 (by kernel_rfl) rfl #[.int .u64 x2] (by rfl) rfl rfl (by simp only [List.map_toArray, List.map_cons, List.map_nil]; rfl) ?_
          with_reducible refine (HZ.out _).mono ?_
          rintro e w3 ⟨rfl, rfl⟩
          refine ⟨_, rfl, ?_⟩
          refine hK.out _ _ ⟨c0, c1', c2'⟩ (fun hHeld => ?_)
          clear hK K
          refine norm_ (a' := ?_) ?_ ?_
          rotate_left
          · show Act.put _ (some 51) _ = _
            simp only [Act.put, List.setIfInBounds_toArray, List.set_cons_zero, List.set_cons_succ, i64_w, i32_w]
            rfl
          refine pure_ (i := 10) (N := some 52) (v := ?_) (a' := ?_) #[true, true, true, true, true, true, true, true, true, true, true, false, false, false] rfl rfl (by kernel_rfl) (fun _ _ _ h => h) (Or.inl ⟨by rfl, ?_⟩) ?_ ?_
          rotate_left
          · intro w'
            go_simp
            with_reducible rfl
          rotate_left
          · simp only [Act.put, List.setIfInBounds_toArray, List.set_cons_zero, List.set_cons_succ, i64_w, i32_w]
            rfl
          refine one_ (i := 11) (N := some 53) #[true, true, true, true, true, true, true, true, true, true, true, true, false, false] rfl rfl (by kernel_rfl) (by decide) (fun K hK => ?_)
          refine value_ (w1 := ?_) (v := ?_) (by rfl) rfl ?_ ?_
          rotate_left 2
          · go_simp
            constructor
            · rfl
            · rfl
          refine hK.out _ _ ⟨pw_cell_below HBD.out c0, pw_cell_below HBD.out c1', pw_cell_below HBD.out c2'⟩ (fun hHeld => ?_)
          clear hK K
          refine norm_ (a' := ?_) ?_ ?_
          rotate_left
          · show Act.put _ (some 53) _ = _
            simp only [Act.put, List.setIfInBounds_toArray, List.set_cons_zero, List.set_cons_succ, i64_w, i32_w]
            rfl
          refine last_ (i := 12) (N := some 54) #[true, true, true, true, true, true, true, true, true, true, true, true, true, false] rfl rfl (by kernel_rfl) (by decide) (fun K hK => ?_)
          refine value_ (w1 := w') (v := v') (by rfl) rfl ?_ ?_
          · (go_simp; first | done | (rw [hrun]; rfl))
          refine hK.out _ _ ?_
          clear hK K
          refine norm_ (a' := ?_) ?_ ?_
          rotate_left
          · show Act.put _ (some 54) _ = _
            simp only [Act.put, List.setIfInBounds_toArray, List.set_cons_zero, List.set_cons_succ, i64_w, i32_w]
            rfl
          refine pure_ (i := 13) (N := some 4) (v := ?_) (a' := ?_) #[true, true, true, true, true, true, true, true, true, true, true, true, true, true] rfl rfl (by kernel_rfl) (fun _ _ _ h => h) (Or.inl ⟨by rfl, ?_⟩) ?_ ?_
          rotate_left
          · intro w'
            go_simp
            with_reducible rfl
          rotate_left
          · simp only [Act.put, List.setIfInBounds_toArray, List.set_cons_zero, List.set_cons_succ, i64_w, i32_w]
            rfl
          refine done_ (by kernel_rfl) ?_
          clear hHeld c0 c1' c2' HBD hrun
          go_wp2
          go_roundg g1
          case measure => omega
          case rel => exact ⟨A2, m2, c2, b2, l1 ++ [⟨x0, x1, z⟩], rfl, by have := HM.out; omega, HS2, HU2, ⟨by have := HL.out; have := HM.out; rw [List.length_append]; simp only [List.length_cons, List.length_nil]; omega⟩, HOZ, HBZ⟩
        · have hlen : (vs.length = 0 ∧ y = 0 ∧ q = 2 ∧ lim q = 65536) ∨ (vs.length = 1 ∧ y = 1 ∧ q = 1 ∧ lim q = 65536) ∨ (vs.length = 2 ∧ y = 2 ∧ q = 0 ∧ lim q = 33554432) := by unfold lim; split <;> omega
          clear hq hy
          rcases hlen with ⟨hi, rfl, hq, hlim⟩ | ⟨hi, rfl, hq, hlim⟩ | ⟨hi, rfl, hq, hlim⟩
          all_goals
            rw [hi] at hm2
            have HI := Hd.mk hi
            have HQ := Hd.mk hq
            clear hi hq
            go_wp2_with fail
            have HSW := Hd.mk (HS2.out.below (below_step HB.out HW.out))
            refine (decode_calls A2 m2 c2 b2 _ HSW.out.C HSW.out.hc HSW.out.hr).mono ?_
            rintro e w3 ⟨rfl, hb3⟩
            have HW2 := Hd.mk (below_step HW.out hb3)
            have hy2 := blk_below HY.out hb3
            have HRE := Hd.mk (@rd_err b2 HS2.out.hr)
            have HUE := Hd.mk (fun k => @un3_err k b2 vs)
            have HUB := Hd.mk (fun k => @un3_big k b2 vs)
            have HUG := Hd.mk (fun k => @un3_go k b2 vs)
            obtain ⟨x, nn, er, hr⟩ : ∃ x nn er, rdN b2 = (x, nn, er) := ⟨_, _, _, rfl⟩
            rw [hr] at HRE HUE HUB HUG ⊢
            simp only [ret3]
            have HY2 := Hd.mk hy2
            clear hb3 HSW HW HY hr hy2
            by_cases he : er = 0
            · subst he
              obtain ⟨j, rfl, hj, hx0, hx1, hxb⟩ := HRE.out rfl
              have hk1 : ∃ k : Nat, (j : Int) + 1 = (k : Int) ∧ 1 ≤ k ∧ k ≤ m2 := ⟨j + 1, by omega, by omega, by have := HS2.out.len; omega⟩
              obtain ⟨k, hjk, hk1, hkm⟩ := hk1
              rw [hjk] at HUE HUB HUG ⊢
              rcases lim_case hlim x with ⟨hx, hlx⟩ | ⟨hx, hlx⟩
              · have hd := decide_eq_true hx
                have h1 := HN.out.symm.trans (HUB.out _ rfl hlx)
                have HR : Hd (uncR b = ([], 171)) := ⟨by
                  rw [← HU.out, unc_err (by rw [HLm]; exact hpos) (by rw [h1]; decide), h1]⟩
                clear h1 hlx
                go_wp2
                go_ret2
                exact ⟨.slice none 0 0, by rw [HR.out]; rfl, by rw [HR.out]; exact own_nil _ _ _ _, below_step HB.out HW2.out⟩
              · try have hd1 : decide (x > 65536) = false := decide_eq_false (by omega)
                have hd2 : decide (x > 33554432) = false := decide_eq_false (by omega)
                have h1 := (HUG.out _ rfl hlx).symm.trans HN.out
                rw [Int.toNat_natCast] at h1
                have HN2 := Hd.mk h1
                clear h1 hlx HUE HUB HUG HN hlim
                obtain ⟨ad, hA, _⟩ := at_byte HS2.out.C 0 (by omega)
                subst hA
                have c0 := blk_cell HY2.out 0
                have c1' := blk_cell HY2.out 1
                have c2' := blk_cell HY2.out 2
                have f0 := blk_frozen HY2.out 0
                have f1 := blk_frozen HY2.out 1
                have f2 := blk_frozen HY2.out 2
                simp at c0 c1' c2'
                have hcm := HS2.out.hc
                have hk63 := Kd.C_max HS2.out.C
                have hz0 : decide ((0 : Int) ≤ (k : Int)) = true := decide_eq_true (by omega)
                have hz1 : decide ((k : Int) ≤ (m2 : Int)) = true := decide_eq_true (by omega)
                have hlm : 0 < m := by omega
                have HX : Hd (0 ≤ x) := ⟨hx0⟩
                clear hj hx0 hx1 hxb HRE
                go_wp2
                all_goals
                  go_roundg q
                  case measure => omega
                  case rel =>
                    refine ⟨_, _, _, b2.drop k, vs ++ [x], _, rfl, rfl, ⟨by rw [List.length_append, HI.out, HQ.out]; rfl, by rw [List.length_append, HI.out]; rfl⟩, ⟨by omega, fun _ => by omega⟩, ⟨by first | exact HS2.out.suf hkm | exact HS2.out.fin hkm (by omega) _⟩, HN2, ⟨VB_snoc HI.out HV.out HX.out (by omega)⟩, ⟨blk_vs HI.out (by decide) HY2.out⟩, ⟨HW2.out.setCell (by rw [HG.out]; exact Nat.le_refl _) _⟩⟩
            · have hne : (er == 0) = false := by simpa using he
              have h1 := HN.out.symm.trans (HUE.out _ he)
              have HR : Hd (uncR b = ([], er)) := ⟨by
                rw [← HU.out, unc_err (by rw [HLm]; exact hpos) (by rw [h1]; exact he), h1]⟩
              clear h1
              go_wp2
              go_ret2
              exact ⟨.slice none 0 0, by rw [HR.out]; rfl, by rw [HR.out]; exact own_nil _ _ _ _, below_step HB.out HW2.out⟩
end Go.Proofs.Ytinlfoblpgpikaa
