/- cutter: Control, by contract. -/
import Derived.Test.YtinlfoblpgpikaaN7
import Derived.Test.YtinlfoblpgpikaaWm
namespace Go.Proofs.Ytinlfoblpgpikaa
open Go.RowKit Go.Shelf Go.Proofs.YtinlfoblpgpikaaW.PrintWords Go.Proofs.YtinlfoblpgpikaaW.PrintLast Go.Proofs.YtinlfoblpgpikaaW.PrintMore Go.Proofs.Ytinlfoblpgpikaa.Pr
set_option linter.unusedVariables false
set_option linter.unusedSimpArgs false
theorem within_c (n : Int) (w : World) : Calls Try.prog 62 #[.int .i64 n] w fun e w' => e = .returned (.bool (decide (0 ≤ n ∧ n ≤ 65536))) ∧ w' = w := by
  by_cases h0 : 0 ≤ n
  · have e0 : decide (n ≥ 0) = true := decide_eq_true h0
    by_cases h1 : n ≤ 65536
    · go_enter Try.func62, Try.ntmps62
      go_wp2
      go_ret
      exact ⟨by rw [decide_eq_true (show 0 ≤ n ∧ n ≤ 65536 by omega)]; rfl, rfl⟩
    · go_enter Try.func62, Try.ntmps62
      go_wp2
      go_ret
      exact ⟨by rw [decide_eq_false (show ¬ n ≤ 65536 by omega)]; rfl, rfl⟩
  · go_enter Try.func62, Try.ntmps62
    go_wp2
    go_ret
    exact ⟨by rw [decide_eq_false (show ¬ 0 ≤ n by omega)]; rfl, rfl⟩
set_option maxHeartbeats 4000000 in
theorem stepMay_c (s : S82) (w : World) : Calls Try.prog 49 #[.agg #[.int .i64 s.f0, .int .i64 s.f1, .int .i64 s.f2]] w fun e w' => e = .returned (.bool (mayC s)) ∧ Below w.heap.size w w' := by
  obtain ⟨f0, f1, f2⟩ := s
  simp only
  have hb : Below w.heap.size w (w.alloc (.cells #[.int .i64 f0, .int .i64 f1, .int .i64 f2] 82)) := (Below.refl _ _).alloc (Nat.le_refl _) _
  have HB := Hd.mk hb
  clear hb
  have k0 := Hd.mk (within_c f0)
  have k1 := Hd.mk (within_c f1)
  have hm : Hd (mayC ⟨f0, f1, f2⟩ = (decide (0 ≤ f0 ∧ f0 ≤ 65536) && (decide (0 ≤ f1 ∧ f1 ≤ 65536) && (decide (-16777216 ≤ f2) && decide (f2 ≤ 16777216))))) := ⟨by rw [Bool.eq_iff_iff]; simp only [mayC, Bool.and_eq_true, decide_eq_true_eq]; omega⟩
  obtain ⟨x0, hx0⟩ : ∃ b, decide (0 ≤ f0 ∧ f0 ≤ 65536) = b := ⟨_, rfl⟩
  obtain ⟨x1, hx1⟩ : ∃ b, decide (0 ≤ f1 ∧ f1 ≤ 65536) = b := ⟨_, rfl⟩
  rw [hx0] at k0 hm
  rw [hx1] at k1 hm
  clear hx0 hx1
  by_cases h2 : -16777216 ≤ f2
  · by_cases h3 : f2 ≤ 16777216
    all_goals
      cases x0
      · go_enter Try.func49, Try.ntmps49
        go_wp2_with fail
        refine (k0.out _).mono ?_
        rintro e w2 ⟨rfl, rfl⟩
        go_wp2
        go_ret
        exact ⟨by rw [hm.out]; simp, HB.out⟩
      · cases x1
        all_goals
          go_enter Try.func49, Try.ntmps49
          go_wp2_with fail
          refine (k0.out _).mono ?_
          rintro e w2 ⟨rfl, rfl⟩
          go_wp2_with fail
          refine (k1.out _).mono ?_
          rintro e w2 ⟨rfl, rfl⟩
          go_wp2
          go_ret
          exact ⟨by rw [hm.out]; simp [h2, h3], HB.out⟩
  · cases x0
    · go_enter Try.func49, Try.ntmps49
      go_wp2_with fail
      refine (k0.out _).mono ?_
      rintro e w2 ⟨rfl, rfl⟩
      go_wp2
      go_ret
      exact ⟨by rw [hm.out]; simp, HB.out⟩
    · cases x1
      all_goals
        go_enter Try.func49, Try.ntmps49
        go_wp2_with fail
        refine (k0.out _).mono ?_
        rintro e w2 ⟨rfl, rfl⟩
        go_wp2_with fail
        refine (k1.out _).mono ?_
        rintro e w2 ⟨rfl, rfl⟩
        go_wp2
        go_ret
        exact ⟨by rw [hm.out]; simp [h2] <;> omega, HB.out⟩
attribute [-go_sem] Builtin.append_
set_option maxRecDepth 100000 in
set_option maxHeartbeats 4000000 in
theorem control_c {A : Option Addr} {c : Nat} {l : List S82} {w : World} (hC : Kd.C k82 w A l.length l) (hc : l.length ≤ c) (hl : l.length ≤ 10000000000000) :
    Calls Try.prog 31 #[.slice A l.length c] w fun e w' => ∃ v, e = .returned (.tuple #[v, .int .i64 (ctlR l).2]) ∧ OB w' w.heap.size v (ctlR l).1 ∧ Below w.heap.size w w' := by
  have HC := Hd.mk hC
  have HCC := Hd.mk hc
  clear hC hc
  go_enter Try.func31, Try.ntmps31
  go_wp2
  go_loopg [4, 9] l.length (fun k v4 v9 W => ∃ i : Nat, v9 = .int .i64 i ∧ i + k = l.length ∧ Hd ((l.take i).all mayC = true) ∧ Hd (OB W w.heap.size v4 (ctlL (l.take i))) ∧ Hd (Below w.heap.size w W))
  case atStart => exact ⟨0, rfl, by omega, ⟨rfl⟩, ⟨own_nil _ _ _ _⟩, ⟨Below.refl _ _⟩⟩
  case round =>
    obtain ⟨i, rfl, hk, HA, HO, HB⟩ := hrel
    rcases gk with _ | gk
    · have hlt : decide ((i : Int) < (l.length : Int)) = false := decide_eq_false (by omega)
      obtain rfl : i = l.length := by omega
      have ha := HA.out
      have ho := HO.out
      rw [List.take_length] at ha ho
      have hr : ctlR l = (ctlL l, 0) := if_pos ha
      have HR := Hd.mk hr
      have HO2 := Hd.mk ho
      clear ha ho hr
      go_wp2
      go_ret2
      refine ⟨u4, by rw [HR.out]; rfl, by rw [HR.out]; exact HO2.out, HB.out⟩
    · have hlt : decide ((i : Int) < (l.length : Int)) = true := decide_eq_true (by omega)
      have hng : decide ((0 : Int) ≤ (i : Int)) = true := decide_eq_true (by omega)
      have hil : i < l.length := by omega
      obtain ⟨ad, e, x0, x1, x2⟩ := at_T82 (Kd.C_below HC.out HB.out) (i : Int) (by omega) (by omega)
      subst e
      rw [Int.toNat_natCast] at x0 x1 x2
      have HS := Hd.mk (ctlL_snoc l i hil)
      have HAS := Hd.mk (all_snoc l i hil)
      have HN := Hd.mk (@all_no l i hil)
      have hlen := ctlL_len HA.out
      rw [List.length_take, Nat.min_eq_left (by omega)] at hlen
      have HLN := Hd.mk hlen
      obtain ⟨s, hs⟩ : ∃ s, rd_T82 l i = s := ⟨_, rfl⟩
      rw [hs] at x0 x1 x2 HS HAS HN
      clear hs hlen
      obtain ⟨f0, f1, f2⟩ := s
      simp only at x0 x1 x2
      have hba := (Below.refl wr.heap.size wr).alloc (Nat.le_refl _) (.cells #[.int .i64 f0, .int .i64 f1, .int .i64 f2] 82)
      have HO1 := Hd.mk (pw_own_below HO.out hba)
      have HB1 := Hd.mk (below_step HB.out hba)
      have HBN := Hd.mk (blk_new wr (.cells #[.int .i64 f0, .int .i64 f1, .int .i64 f2] 82))
      clear hba
      go_wp2_with fail
      refine (stepMay_c ⟨f0, f1, f2⟩ _).mono ?_
      rintro e w2 ⟨rfl, hb2⟩
      have HO2 := Hd.mk (pw_own_below HO1.out hb2)
      have HB2 := Hd.mk (below_step HB1.out hb2)
      have hbn := blk_below HBN.out hb2
      clear hb2 HO1 HB1 HBN x0 x1 x2
      cases hm : mayC ⟨f0, f1, f2⟩ with
      | false =>
        have hr : ctlR l = ([], 171) := if_neg (by rw [HN.out hm]; simp)
        have HR := Hd.mk hr
        clear hr hm
        go_wp2
        go_ret2
        refine ⟨.slice none 0 0, by rw [HR.out]; rfl, by rw [HR.out]; exact own_nil _ _ _ _, HB2.out⟩
      | true =>
        obtain ⟨g0, g1, g2, g3, g4, g5⟩ := (mayC_iff _).1 hm
        simp only at g0 g1 g2 g3 g4 g5
        obtain ⟨b6, hb6⟩ : ∃ b, wr.heap.size = b := ⟨_, rfl⟩
        rw [hb6] at hbn ⊢
        have c0 := blk_cell hbn 0
        have c1 := blk_cell hbn 1
        have c2 := blk_cell hbn 2
        simp at c0 c1 c2
        have hw0 : IntKind.u64.wrap f0 = f0 := by rw [IntKind.wrap_u64]; omega
        have hw1 : IntKind.u64.wrap f1 = f1 := by rw [IntKind.wrap_u64]; omega
        have HA2 : Hd ((l.take (i + 1)).all mayC = true) := ⟨by rw [HAS.out, HA.out, hm]; rfl⟩
        have hz := zig_le g4 g5
        obtain ⟨z, hzz⟩ : ∃ z, zig f2 = z := ⟨_, rfl⟩
        have HZ : Hd (∀ W, Calls Try.prog 51 #[.int .i64 f2] W fun e w' => e = .returned (.int .u64 z) ∧ w' = W) := ⟨fun W => by rw [← hzz]; exact zig_calls f2 (by omega) (by omega) W⟩
        have HSn : Hd (ctlL (l.take (i + 1)) = ctlL (l.take i) ++ bytesL [f0, f1, z]) := ⟨by rw [HS.out, ← hzz]; rfl⟩
        rw [hzz] at hz
        have hba := (Below.refl w2.heap.size w2).alloc (Nat.le_refl _) (.cells #[.int .u64 f0, .int .u64 f1, .int .u64 z] 77)
        have HU : Hd (U64s (w2.alloc (.cells #[.int .u64 f0, .int .u64 f1, .int .u64 z] 77)).drew (some ⟨w2.heap.size, 0, none⟩) 3 3 [f0, f1, z]) := ⟨by
          obtain ⟨_, _, e, _, hC3⟩ := own_C (own_lit w2 0 77 .u64 [f0, f1, z] (Nat.zero_le _) (by simp))
          cases e
          refine ⟨hC3, Nat.le_refl _, ?_, by omega⟩
          · intro x hx
            simp only [List.mem_cons, List.not_mem_nil, or_false] at hx
            rcases hx with rfl | rfl | rfl <;> omega⟩
        have HBA := Hd.mk hba.drew
        have HO3 : Hd (OB (w2.alloc (.cells #[.int .u64 f0, .int .u64 f1, .int .u64 z] 77)).drew w.heap.size u4 (ctlL (l.take i))) := ⟨pw_own_below HO2.out hba.drew⟩
        have HB3 : Hd (Below w.heap.size w (w2.alloc (.cells #[.int .u64 f0, .int .u64 f1, .int .u64 z] 77)).drew) := ⟨below_step HB2.out hba.drew⟩
        have H10 := Hd.mk (bytesL_len [f0, f1, z])
        clear hm hba hbn hzz hb6 HS HAS HN HC HCC
        go_upto_region 7 with fail
        refine start_ (n := 14) (S := fun w' => w'.cell? ⟨b6, 0, none⟩ = some (.int .i64 f0) ∧ w'.cell? ⟨b6, 1, none⟩ = some (.int .i64 f1) ∧ w'.cell? ⟨b6, 2, none⟩ = some (.int .i64 f2)) (ds := [12]) #[false, false, false, false, false, false, false, false, false, false, false, false, false, false] (by kernel_rfl) rfl rfl ⟨c0, c1, c2⟩ (fun hHeld => ?_)
        refine pure_ (i := 0) (N := some 16) (v := ?_) (a' := ?_) #[true, false, false, false, false, false, false, false, false, false, false, false, false, false] rfl rfl (by kernel_rfl) (fun _ _ _ h => h) (Or.inl ⟨by rfl, ?_⟩) ?_ ?_
        rotate_left
        · intro w'
          go_simp
          with_reducible rfl
        rotate_left
        · simp only [Act.put, List.setIfInBounds_toArray, List.set_cons_zero, List.set_cons_succ, i64_w, i32_w]
          rfl
        refine pure_ (i := 1) (N := some 17) (v := ?_) (a' := ?_) #[true, true, false, false, false, false, false, false, false, false, false, false, false, false] rfl rfl (by kernel_rfl) (fun _ _ _ h => h) (Or.inl ⟨by rfl, ?_⟩) ?_ ?_
        rotate_left
        · intro w'
          go_simp
          with_reducible rfl
        rotate_left
        · simp only [Act.put, List.setIfInBounds_toArray, List.set_cons_zero, List.set_cons_succ, i64_w, i32_w]
          rfl
        refine pure_ (i := 4) (N := some 20) (v := ?_) (a' := ?_) #[true, true, false, false, true, false, false, false, false, false, false, false, false, false] rfl rfl (by kernel_rfl) (fun _ _ _ h => h) (Or.inl ⟨by rfl, ?_⟩) ?_ ?_
        rotate_left
        · intro w'
          go_simp
          with_reducible rfl
        rotate_left
        · simp only [Act.put, List.setIfInBounds_toArray, List.set_cons_zero, List.set_cons_succ, i64_w, i32_w]
          rfl
        refine pure_ (i := 7) (N := some 23) (v := ?_) (a' := ?_) #[true, true, false, false, true, false, false, true, false, false, false, false, false, false] rfl rfl (by kernel_rfl) (fun _ _ _ h => h) (Or.inl ⟨by rfl, ?_⟩) ?_ ?_
        rotate_left
        · intro w'
          go_simp
          with_reducible rfl
        rotate_left
        · simp only [Act.put, List.setIfInBounds_toArray, List.set_cons_zero, List.set_cons_succ, i64_w, i32_w]
          rfl
        refine take_ (i := 2) (N := some 18) (v := ?_) (a' := ?_) #[true, true, true, false, true, false, false, true, false, false, false, false, false, false] rfl rfl (by kernel_rfl) (fun _ _ _ h => h) (Or.inl ⟨by rfl, ?_⟩) hHeld ?_ ?_
        rotate_left
        · rintro w' ⟨s0, s1, s2⟩
          go_simp
          with_reducible rfl
        rotate_left
        · simp only [Act.put, List.setIfInBounds_toArray, List.set_cons_zero, List.set_cons_succ, i64_w, i32_w]
          rfl
        refine pure_ (i := 3) (N := some 19) (v := ?_) (a' := ?_) #[true, true, true, true, true, false, false, true, false, false, false, false, false, false] rfl rfl (by kernel_rfl) (fun _ _ _ h => h) (Or.inl ⟨by rfl, ?_⟩) ?_ ?_
        rotate_left
        · intro w'
          go_simp
          with_reducible rfl
        rotate_left
        · simp only [Act.put, List.setIfInBounds_toArray, List.set_cons_zero, List.set_cons_succ, i64_w, i32_w]
          rfl
        refine take_ (i := 5) (N := some 21) (v := ?_) (a' := ?_) #[true, true, true, true, true, true, false, true, false, false, false, false, false, false] rfl rfl (by kernel_rfl) (fun _ _ _ h => h) (Or.inl ⟨by rfl, ?_⟩) hHeld ?_ ?_
        rotate_left
        · rintro w' ⟨s0, s1, s2⟩
          go_simp
          with_reducible rfl
        rotate_left
        · simp only [Act.put, List.setIfInBounds_toArray, List.set_cons_zero, List.set_cons_succ, i64_w, i32_w]
          rfl
        refine pure_ (i := 6) (N := some 22) (v := ?_) (a' := ?_) #[true, true, true, true, true, true, true, true, false, false, false, false, false, false] rfl rfl (by kernel_rfl) (fun _ _ _ h => h) (Or.inl ⟨by rfl, ?_⟩) ?_ ?_
        rotate_left
        · intro w'
          go_simp
          with_reducible rfl
        rotate_left
        · simp only [Act.put, List.setIfInBounds_toArray, List.set_cons_zero, List.set_cons_succ, i64_w, i32_w]
          rfl
        refine take_ (i := 8) (N := some 24) (v := ?_) (a' := ?_) #[true, true, true, true, true, true, true, true, true, false, false, false, false, false] rfl rfl (by kernel_rfl) (fun _ _ _ h => h) (Or.inl ⟨by rfl, ?_⟩) hHeld ?_ ?_
        rotate_left
        · rintro w' ⟨s0, s1, s2⟩
          go_simp
          with_reducible rfl
        rotate_left
        · simp only [Act.put, List.setIfInBounds_toArray, List.set_cons_zero, List.set_cons_succ, i64_w, i32_w]
          rfl
        refine one_ (i := 9) (N := some 25) #[true, true, true, true, true, true, true, true, true, true, false, false, false, false] rfl rfl (by kernel_rfl) (by decide) (fun K hK => ?_)
        refine goes_ Try.func51 (by kernel_rfl) rfl #[.int .i64 f2] (by rfl) rfl rfl (by simp only [List.map_toArray, List.map_cons, List.map_nil]; rfl) ?_
        with_reducible refine (HZ.out _).mono ?_
        rintro e w3 ⟨rfl, rfl⟩
        refine ⟨_, rfl, ?_⟩
        refine hK.out _ _ ⟨c0, c1, c2⟩ (fun hHeld => ?_)
        clear hK K
        refine norm_ (a' := ?_) ?_ ?_
        rotate_left
        · show Act.put _ (some 25) _ = _
          simp only [Act.put, List.setIfInBounds_toArray, List.set_cons_zero, List.set_cons_succ, i64_w, i32_w]
          rfl
        refine one_ (i := 10) (N := some 26) #[true, true, true, true, true, true, true, true, true, true, true, false, false, false] rfl rfl (by kernel_rfl) (by decide) (fun K hK => ?_)
        refine value_ (w1 := ?_) (v := ?_) (by rfl) rfl ?_ ?_
        rotate_left 2
        · go_simp
          constructor
          · rfl
          · rfl
        refine hK.out _ _ ⟨pw_cell_below HBA.out c0, pw_cell_below HBA.out c1, pw_cell_below HBA.out c2⟩ (fun hHeld => ?_)
        clear hK K
        refine norm_ (a' := ?_) ?_ ?_
        rotate_left
        · show Act.put _ (some 26) _ = _
          simp only [Act.put, List.setIfInBounds_toArray, List.set_cons_zero, List.set_cons_succ, i64_w, i32_w]
          rfl
        refine one_ (i := 11) (N := some 27) #[true, true, true, true, true, true, true, true, true, true, true, true, false, false] rfl rfl (by kernel_rfl) (by decide) (fun K hK => ?_)
        refine goes_ Try.func50 (by kernel_rfl) rfl #[.slice (some ⟨w2.heap.size, 0, none⟩) 3 3] (by rfl) rfl rfl (by simp only [List.map_toArray, List.map_cons, List.map_nil]; rfl) ?_
        with_reducible refine (encode_calls _ _ _ _ _ HU.out).mono ?_
        rintro e w4 ⟨v6, rfl, ho4, hb4⟩
        refine ⟨_, rfl, ?_⟩
        obtain ⟨A6, c6, rfl, hc6, hC6⟩ := own_C ho4
        have HO4 := Hd.mk (pw_own_below HO3.out hb4)
        have HB4 := Hd.mk (below_step HB3.out hb4)
        have hbb := hb4
        have HC6 := Hd.mk hC6
        obtain ⟨v7, w7, hrun, ho7, hg7, _, _⟩ := run_app (P := Try.prog) w4 w.heap.size 24 24 5 (.int .u8 0) 1 1 eltB u4 (ctlL (l.take i)).length (nums .u8 (ctlL (l.take i))) HO4.out A6 (bytesL [f0, f1, z]).length c6 _ (Src.of_C HC6.out) (by have := HLN.out; have := H10.out; simp only [List.length_cons, List.length_nil] at this; omega) HB4.out.size
        have HO7 : Hd (OB w7 w.heap.size v7 (ctlL (l.take (i + 1)))) := ⟨by rw [HSn.out]; exact OB.snoc ho7 rfl⟩
        have HB7 := Hd.mk (HB4.out.grown hg7 HB4.out.size (own_base HO4.out))
        clear ho4 hb4 hC6 ho7 hg7
        refine hK.out _ _ ⟨pw_cell_below hbb (pw_cell_below HBA.out c0), pw_cell_below hbb (pw_cell_below HBA.out c1), pw_cell_below hbb (pw_cell_below HBA.out c2)⟩ (fun hHeld => ?_)
        clear hK K
        refine norm_ (a' := ?_) ?_ ?_
        rotate_left
        · show Act.put _ (some 27) _ = _
          simp only [Act.put, List.setIfInBounds_toArray, List.set_cons_zero, List.set_cons_succ, i64_w, i32_w]
          rfl
        refine last_ (i := 12) (N := some 28) #[true, true, true, true, true, true, true, true, true, true, true, true, true, false] rfl rfl (by kernel_rfl) (by decide) (fun K hK => ?_)
        refine value_ (w1 := w7) (v := v7) (by rfl) rfl ?_ ?_
        · (go_simp; first | done | (rw [hrun]; rfl))
        refine hK.out _ _ ?_
        clear hK K
        refine norm_ (a' := ?_) ?_ ?_
        rotate_left
        · show Act.put _ (some 28) _ = _
          simp only [Act.put, List.setIfInBounds_toArray, List.set_cons_zero, List.set_cons_succ, i64_w, i32_w]
          rfl
        refine pure_ (i := 13) (N := some 4) (v := ?_) (a' := ?_) #[true, true, true, true, true, true, true, true, true, true, true, true, true, true] rfl rfl (by kernel_rfl) (fun _ _ _ h => h) (Or.inl ⟨by rfl, ?_⟩) ?_ ?_
        rotate_left
        · intro w'
          go_simp
          with_reducible rfl
        rotate_left
        · simp only [Act.put, List.setIfInBounds_toArray, List.set_cons_zero, List.set_cons_succ, i64_w, i32_w]
          rfl
        refine done_ (by kernel_rfl) ?_
        clear hHeld
        go_wp2
        go_roundg gk
        case measure => omega
        case rel => exact ⟨i + 1, by go_num, by omega, HA2, HO7, HB7⟩
end Go.Proofs.Ytinlfoblpgpikaa
