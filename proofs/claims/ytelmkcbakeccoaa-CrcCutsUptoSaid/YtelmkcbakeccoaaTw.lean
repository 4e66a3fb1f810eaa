/- crc: four bytes at once: what the register does behind a word's four bytes; the sum's residue. -/
import Derived.Test.YtelmkcbakeccoaaTl
import Derived.Laws.StructEq
namespace Go.Proofs.Ytelmkcbakeccoaa
open Go.RowKit Go.Proofs.YtelmkcbakeccoaaW.PrintWords Go.Proofs.YtelmkcbakeccoaaW.PrintLast Go.Proofs.YtelmkcbakeccoaaW.PrintMore
set_option linter.unusedVariables false
set_option linter.unusedSimpArgs false
theorem ofInt_W (a : R) : BitVec.ofInt 32 (W a) = a := by
  unfold W; rw [BitVec.ofInt_natCast, BitVec.ofNat_toNat, BitVec.setWidth_eq]
theorem W_255 (a : R) : W a % 256 = W (a &&& 255#32) := by
  unfold W
  rw [BitVec.toNat_and, show (255#32).toNat = 2 ^ 8 - 1 by decide, Nat.and_two_pow_sub_one_eq_mod]
  omega
theorem g255 (j : Nat) : (255#32).getLsbD j = decide (j < 8) := by
  by_cases h : j < 32
  · have : ∀ j, j < 32 → (255#32).getLsbD j = decide (j < 8) := by decide
    exact this j h
  · rw [BitVec.getLsbD_of_ge _ _ (by omega), decide_eq_false (by omega)]
def bt (y : R) (k : Nat) : R := (y >>> k) &&& 255#32
theorem bt_bit (y : R) (k j : Nat) : (bt y k).getLsbD j = (y.getLsbD (k + j) && decide (j < 8)) := by
  rw [bt, BitVec.getLsbD_and, BitVec.getLsbD_ushiftRight, g255]
theorem bytes_eq (y : R) : y = bt y 0 ^^^ (bt y 8 <<< 8) ^^^ (bt y 16 <<< 16) ^^^ (bt y 24 <<< 24) := by
  apply BitVec.eq_of_getLsbD_eq
  intro i hi
  simp only [BitVec.getLsbD_xor, BitVec.getLsbD_shiftLeft, bt_bit, Nat.zero_add]
  by_cases h1 : i < 8
  · simp [hi, h1, show i < 16 by omega, show i < 24 by omega]
  · by_cases h2 : i < 16
    · have e : 8 + (i - 8) = i := by omega
      simp [hi, h1, h2, e, show i < 24 by omega, show i - 8 < 8 by omega]
    · by_cases h3 : i < 24
      · have e : 16 + (i - 16) = i := by omega
        simp [hi, h1, h2, h3, e, show ¬ i - 8 < 8 by omega, show i - 16 < 8 by omega]
      · have e : 24 + (i - 24) = i := by omega
        simp [hi, h1, h2, h3, e, show ¬ i - 8 < 8 by omega, show ¬ i - 16 < 8 by omega, show i - 24 < 8 by omega]
theorem Sn_up (y : R) (m k : Nat) (hk : k ≤ 24) : Sn k (bt y m <<< k) = bt y m := by
  rw [Sn_shift k _ (by omega)]
  · apply BitVec.eq_of_getLsbD_eq
    intro i hi
    rw [BitVec.getLsbD_ushiftRight, BitVec.getLsbD_shiftLeft, bt_bit, bt_bit, show k + i - k = i by omega]
    by_cases h : i < 8
    · simp [h, show k + i < 32 by omega]
    · simp [h]
  · intro i hi
    rw [BitVec.getLsbD_shiftLeft]
    simp [hi]
theorem bs_lit (w : World) (l : List Int) (n : Nat) (t : TypeId) (hl : l.length = n) (hr : ∀ x ∈ l, 0 ≤ x ∧ x ≤ 255) (hn : n ≤ 140737488351232) : Bs (w.alloc (.cells (nums .u8 l).toArray t)) (some ⟨w.heap.size, 0, none⟩) n n l := by
  subst hl
  refine ⟨?_, Nat.le_refl _, hr⟩
  refine Kd.C_of_reads (enc := Value.int .u8) (d := (0 : Int)) (h1 := fun _ => rfl) ⟨rfl, by omega, fun _ => ⟨_, rfl, fun j hj => ?_⟩⟩
  rw [add_plain, blk_cell (blk_new w _)]
  simp [nums, hj]
theorem below_step {a b c : World} (h : Below a.heap.size a b) (k : Below b.heap.size b c) : Below a.heap.size a c := h.trans (k.mono h.size)
def word (y : R) : List Int := [W y % 256, W y / 256 % 256, W y / 65536 % 256, W y / 16777216 % 256]
theorem word_bt (y : R) : word y = [W (bt y 0), W (bt y 8), W (bt y 16), W (bt y 24)] := by
  have e8 : W y / (256 : Int) = W (y >>> 8) := W_shr y 8
  have e16 : W y / (65536 : Int) = W (y >>> 16) := W_shr y 16
  have e24 : W y / (16777216 : Int) = W (y >>> 24) := W_shr y 24
  unfold word
  rw [e8, e16, e24, W_255, W_255, W_255, W_255]
  simp [bt]
theorem word_range (y : R) : ∀ x ∈ word y, 0 ≤ x ∧ x ≤ 255 := by
  intro x hx
  simp only [word, List.mem_cons, List.not_mem_nil, or_false] at hx
  have h := (W_bd y).1
  rcases hx with rfl | rfl | rfl | rfl <;> omega
theorem run_word (r y : R) : runB r (word y) = Sn 32 (r ^^^ y) := by
  rw [word_bt]
  simp only [runB, ofInt_W]
  have e1 : Sn 8 (r ^^^ bt y 0) ^^^ bt y 8 = Sn 8 (r ^^^ bt y 0 ^^^ bt y 8 <<< 8) := by rw [Sn_xor 8 _ (bt y 8 <<< 8), Sn_up y 8 8 (by omega)]
  have e2 : Sn 8 (Sn 8 (r ^^^ bt y 0 ^^^ bt y 8 <<< 8)) ^^^ bt y 16 = Sn 16 (r ^^^ bt y 0 ^^^ bt y 8 <<< 8 ^^^ bt y 16 <<< 16) := by
    rw [← Sn_add, Sn_xor 16 _ (bt y 16 <<< 16), Sn_up y 16 16 (by omega)]
  have e3 : Sn 8 (Sn 16 (r ^^^ bt y 0 ^^^ bt y 8 <<< 8 ^^^ bt y 16 <<< 16)) ^^^ bt y 24 = Sn 24 (r ^^^ bt y 0 ^^^ bt y 8 <<< 8 ^^^ bt y 16 <<< 16 ^^^ bt y 24 <<< 24) := by
    rw [← Sn_add, Sn_xor 24 _ (bt y 24 <<< 24), Sn_up y 24 24 (by omega)]
  rw [e1, e2, e3, ← Sn_add]
  congr 1
  conv => rhs; rw [bytes_eq y]
  simp [BitVec.xor_assoc]
theorem tail_leads (c want : R) : ~~~ runB (~~~ c) (word (backN 32 (~~~ want) ^^^ ~~~ c)) = want := by
  rw [run_word, BitVec.xor_comm (backN 32 (~~~ want)), xcl, Sn_backN, BitVec.not_not]
theorem residue (r : R) : W (~~~ runB r (word (~~~ r))) = 558161692 := by
  rw [run_word, show r ^^^ ~~~ r = BitVec.allOnes 32 by
    apply BitVec.eq_of_getLsbD_eq
    intro i hi
    rw [BitVec.getLsbD_xor, BitVec.getLsbD_not, BitVec.getLsbD_allOnes]
    cases r.getLsbD i <;> simp [hi]]
  decide

theorem part_int (xs : Array Value) (i : Nat) (v : Value) (w : World) (h : xs[i]? = some v) : (part 5 xs i).run Try.prog w = .ok v w := by
  unfold part
  have ha : (isAgg 5).run Try.prog w = .ok false w := by
    unfold isAgg
    rw [Sem.run_bind, run_underlying Try.underlying5 w]
    rfl
  simp [Sem.run_bind, ha, h]
theorem eq_four' (n : Nat) (a b c d : Int) (w : World) : (Op.equalIn (n + 2) 47 (.agg #[.int .u8 a, .int .u8 b, .int .u8 c, .int .u8 d]) (.agg #[.int .u8 a, .int .u8 b, .int .u8 c, .int .u8 d])).run Try.prog w = .ok true w := by
  have hs : (sizeOf 5).run Try.prog w = .ok 1 w := by
    obtain ⟨i0, hi, hz0, hz1, hz2⟩ := info_parts eltB.hi
    unfold sizeOf typeInfo
    simp [Sem.run_bind, hi, hz1]
  have he : ∀ x, (Op.equalIn (n + 1) 5 (.int .u8 x) (.int .u8 x)).run Try.prog w = .ok true w := by
    intro x
    rw [run_equalIn_int (P := Try.prog) w n 5 .u8 .u8 x x Try.underlying5]
    simp
  have hp0 := part_int #[.int .u8 a, .int .u8 b, .int .u8 c, .int .u8 d] 0 _ w rfl
  have hp1 := part_int #[.int .u8 a, .int .u8 b, .int .u8 c, .int .u8 d] 1 _ w rfl
  have hp2 := part_int #[.int .u8 a, .int .u8 b, .int .u8 c, .int .u8 d] 2 _ w rfl
  have hp3 := part_int #[.int .u8 a, .int .u8 b, .int .u8 c, .int .u8 d] 3 _ w rfl
  rw [Op.equalIn, Sem.run_bind, run_underlying Try.underlying47]
  simp only [Sem.run_bind, Result.andThen_ok, hs]
  simp [Std.Legacy.Range.forIn_eq_forIn_range', List.range'_succ, List.range', Std.Legacy.Range.size, Sem.run_bind, hp0, hp1, hp2, hp3, he]
theorem eq_four (a b c d : Int) (w : World) : (Op.equalIn 10000 47 (.agg #[.int .u8 a, .int .u8 b, .int .u8 c, .int .u8 d]) (.agg #[.int .u8 a, .int .u8 b, .int .u8 c, .int .u8 d])).run Try.prog w = .ok true w := eq_four' 9998 a b c d w
set_option maxHeartbeats 2000000 in
theorem walk_crcTails (a0 a1 : Int) (w : World) (w0 : (Lit.int .u32 a0).wf = true) (w1 : (Lit.int .u32 a1).wf = true) :
    Calls Try.prog 10 #[.int .u32 a0, .int .u32 a1] w fun e w' => e = .returned (.bool true) ∧ Below w.heap.size w w' := by
  obtain ⟨b0, b1⟩ := bounds_u32 w0
  obtain ⟨c0, c1⟩ := bounds_u32 w1
  obtain ⟨c, rfl⟩ := exists_W a0 b0 b1
  obtain ⟨want, rfl⟩ := exists_W a1 c0 c1
  clear w0 w1 b0 b1 c0 c1
  have hL := tail_leads c want
  have hrun := rtail_calls c want
  have htl := tail_calls c want
  obtain ⟨y, ey⟩ : ∃ y, backN 32 (~~~ want) ^^^ ~~~ c = y := ⟨_, rfl⟩
  rw [ey] at hL hrun htl
  have hr := word_range y
  unfold tailV at hrun htl
  unfold word at hL hr
  obtain ⟨x0, e0⟩ : ∃ x, W y % 256 = x := ⟨_, rfl⟩
  obtain ⟨x1, e1⟩ : ∃ x, W y / 256 % 256 = x := ⟨_, rfl⟩
  obtain ⟨x2, e2⟩ : ∃ x, W y / 65536 % 256 = x := ⟨_, rfl⟩
  obtain ⟨x3, e3⟩ : ∃ x, W y / 16777216 % 256 = x := ⟨_, rfl⟩
  rw [e0, e1, e2, e3] at hL hr
  simp only [e0, e1, e2, e3] at hrun htl
  have HL := Hd.mk hL
  have HR := Hd.mk hr
  have HRUN := Hd.mk hrun
  clear hL hr hrun e0 e1 e2 e3 ey
  have hEQ := eq_four x0 x1 x2 x3
  go_enter Try.func10, Try.ntmps10
  go_wp2_with fail
  go_at_call 28
  refine (htl _).mono ?_
  clear htl
  rintro e w1 ⟨rfl, h1⟩
  have H1 := Hd.mk h1
  clear h1
  go_wp2_with fail
  have HB : Hd (Bs (w1.alloc (.cells #[.int .u8 x0, .int .u8 x1, .int .u8 x2, .int .u8 x3] 47)).drew (some ⟨w1.heap.size, 0, none⟩) 4 4 [x0, x1, x2, x3]) := ⟨(bs_lit w1 [x0, x1, x2, x3] 4 47 rfl HR.out (by omega)).below ((Below.refl _ _).drew)⟩
  have HC := Hd.mk (blk_cell (blk_new w1 (.cells #[.int .u8 x0, .int .u8 x1, .int .u8 x2, .int .u8 x3] 47)))
  refine start_ (n := 13) (S := fun w' => w'.cell? ⟨w1.heap.size, 0, none⟩ = some (.int .u8 x0) ∧ w'.cell? ⟨w1.heap.size, 1, none⟩ = some (.int .u8 x1) ∧ w'.cell? ⟨w1.heap.size, 2, none⟩ = some (.int .u8 x2) ∧ w'.cell? ⟨w1.heap.size, 3, none⟩ = some (.int .u8 x3)) (ds := []) #[false, false, false, false, false, false, false, false, false, false, false, false, false] (by kernel_rfl) rfl rfl ⟨HC.out 0, HC.out 1, HC.out 2, HC.out 3⟩ (fun hHeld => ?_)
  refine pure_ (i := 1) (N := some 10) (v := ?_) (a' := ?_) #[false, true, false, false, false, false, false, false, false, false, false, false, false] rfl rfl (by kernel_rfl) (fun _ _ _ h => h) (Or.inl ⟨by rfl, ?_⟩) ?_ ?_
  rotate_left
  · intro w'
    go_simp
    with_reducible rfl
  rotate_left
  · simp only [Act.put, List.setIfInBounds_toArray, List.set_cons_zero, List.set_cons_succ, i64_w, i32_w]
    rfl
  refine pure_ (i := 2) (N := some 11) (v := ?_) (a' := ?_) #[false, true, true, false, false, false, false, false, false, false, false, false, false] rfl rfl (by kernel_rfl) (fun _ _ _ h => h) (Or.inl ⟨by rfl, ?_⟩) ?_ ?_
  rotate_left
  · intro w'
    go_simp
    with_reducible rfl
  rotate_left
  · simp only [Act.put, List.setIfInBounds_toArray, List.set_cons_zero, List.set_cons_succ, i64_w, i32_w]
    rfl
  refine take_ (i := 0) (N := some 9) (v := ?_) (a' := ?_) #[true, true, true, false, false, false, false, false, false, false, false, false, false] rfl rfl (by kernel_rfl) (fun _ _ _ h => h) (Or.inl ⟨by rfl, ?_⟩) hHeld ?_ ?_
  rotate_left
  · rintro w' ⟨s0, s1, s2, s3⟩
    go_simp
    with_reducible rfl
  rotate_left
  · simp only [Act.put, List.setIfInBounds_toArray, List.set_cons_zero, List.set_cons_succ, i64_w, i32_w]
    rfl
  refine one_ (i := 3) (N := some 12) #[true, true, true, true, false, false, false, false, false, false, false, false, false] rfl rfl (by kernel_rfl) (by decide) (fun K hK => ?_)
  refine goes_ Try.func29 (by kernel_rfl) rfl #[.int .u32 (W c), .int .u32 (W want)] (by rfl) rfl rfl (by simp only [List.map_toArray, List.map_cons, List.map_nil]; rfl) ?_
  with_reducible refine (HRUN.out _).mono ?_
  rintro e w2 ⟨rfl, h2⟩
  refine ⟨_, rfl, ?_⟩
  have H2 := Hd.mk h2
  clear h2
  refine hK.out _ _ ⟨(H2.out.cell (by simp)).trans (HC.out 0), (H2.out.cell (by simp)).trans (HC.out 1), (H2.out.cell (by simp)).trans (HC.out 2), (H2.out.cell (by simp)).trans (HC.out 3)⟩ (fun hHeld => ?_)
  clear hK K
  refine norm_ (a' := ?_) ?_ ?_
  rotate_left
  · show Act.put _ (some 12) _ = _
    simp only [Act.put, List.setIfInBounds_toArray, List.set_cons_zero, List.set_cons_succ, i64_w, i32_w]
    rfl
  refine pure_ (i := 4) (N := some 13) (v := ?_) (a' := ?_) #[true, true, true, true, true, false, false, false, false, false, false, false, false] rfl rfl (by kernel_rfl) (fun _ _ _ h => h) (Or.inl ⟨by rfl, ?_⟩) ?_ ?_
  rotate_left
  · intro w'
    go_simp
    with_reducible rfl
  rotate_left
  · simp only [Act.put, List.setIfInBounds_toArray, List.set_cons_zero, List.set_cons_succ, i64_w, i32_w]
    rfl
  refine pure_ (i := 5) (N := some 14) (v := ?_) (a' := ?_) #[true, true, true, true, true, true, false, false, false, false, false, false, false] rfl rfl (by kernel_rfl) (fun _ _ _ h => h) (Or.inl ⟨by rfl, ?_⟩) ?_ ?_
  rotate_left
  · intro w'
    go_simp
    with_reducible rfl
  rotate_left
  · simp only [Act.put, List.setIfInBounds_toArray, List.set_cons_zero, List.set_cons_succ, i64_w, i32_w]
    rfl
  refine pure_ (i := 6) (N := some 15) (v := ?_) (a' := ?_) #[true, true, true, true, true, true, true, false, false, false, false, false, false] rfl rfl (by kernel_rfl) (fun _ _ _ h => h) (Or.inl ⟨by rfl, ?_⟩) ?_ ?_
  rotate_left
  · intro w'
    go_simp
    with_reducible rfl
  rotate_left
  · simp only [Act.put, List.setIfInBounds_toArray, List.set_cons_zero, List.set_cons_succ, i64_w, i32_w]
    rfl
  refine pure_ (i := 7) (N := some 16) (v := ?_) (a' := ?_) #[true, true, true, true, true, true, true, true, false, false, false, false, false] rfl rfl (by kernel_rfl) (fun _ _ _ h => h) (Or.inl ⟨by rfl, ?_⟩) ?_ ?_
  rotate_left
  · intro w'
    go_simp
    with_reducible rfl
  rotate_left
  · simp only [Act.put, List.setIfInBounds_toArray, List.set_cons_zero, List.set_cons_succ, i64_w, i32_w]
    rfl
  refine pure_ (i := 9) (N := some 18) (v := ?_) (a' := ?_) #[true, true, true, true, true, true, true, true, false, true, false, false, false] rfl rfl (by kernel_rfl) (fun _ _ _ h => h) (Or.inl ⟨by rfl, ?_⟩) ?_ ?_
  rotate_left
  · intro w'
    go_simp
    with_reducible rfl
  rotate_left
  · simp only [Act.put, List.setIfInBounds_toArray, List.set_cons_zero, List.set_cons_succ, i64_w, i32_w]
    rfl
  refine one_ (i := 8) (N := some 17) #[true, true, true, true, true, true, true, true, true, true, false, false, false] rfl rfl (by kernel_rfl) (by decide) (fun K hK => ?_)
  refine goes_ Try.func17 (by kernel_rfl) rfl #[.int .u32 (W c), .slice (some ⟨w1.heap.size, 0, none⟩) 4 4] (by rfl) rfl rfl (by simp only [List.map_toArray, List.map_cons, List.map_nil]; rfl) ?_
  with_reducible refine (more_calls c _ 4 4 [x0, x1, x2, x3] _ (HB.out.below H2.out).C (by omega) HR.out).mono ?_
  rintro e w3 ⟨rfl, h3⟩
  refine ⟨_, rfl, ?_⟩
  rw [HL.out]
  have H3 := Hd.mk h3
  clear h3
  refine hK.out _ _ ⟨(H3.out.cell (Nat.lt_of_lt_of_le (by simp) H2.out.size)).trans ((H2.out.cell (by simp)).trans (HC.out 0)), (H3.out.cell (Nat.lt_of_lt_of_le (by simp) H2.out.size)).trans ((H2.out.cell (by simp)).trans (HC.out 1)), (H3.out.cell (Nat.lt_of_lt_of_le (by simp) H2.out.size)).trans ((H2.out.cell (by simp)).trans (HC.out 2)), (H3.out.cell (Nat.lt_of_lt_of_le (by simp) H2.out.size)).trans ((H2.out.cell (by simp)).trans (HC.out 3))⟩ (fun hHeld => ?_)
  clear hK K
  refine norm_ (a' := ?_) ?_ ?_
  rotate_left
  · show Act.put _ (some 17) _ = _
    simp only [Act.put, List.setIfInBounds_toArray, List.set_cons_zero, List.set_cons_succ, i64_w, i32_w]
    rfl
  refine pure_ (i := 10) (N := some 19) (v := ?_) (a' := ?_) #[true, true, true, true, true, true, true, true, true, true, true, false, false] rfl rfl (by kernel_rfl) (fun _ _ _ h => h) (Or.inl ⟨by rfl, ?_⟩) ?_ ?_
  rotate_left
  · intro w'
    go_simp
    with_reducible rfl
  rotate_left
  · simp only [Act.put, List.setIfInBounds_toArray, List.set_cons_zero, List.set_cons_succ, i64_w, i32_w]
    rfl
  refine pure_ (i := 11) (N := some 20) (v := ?_) (a' := ?_) #[true, true, true, true, true, true, true, true, true, true, true, true, false] rfl rfl (by kernel_rfl) (fun _ _ _ h => h) (Or.inl ⟨by rfl, ?_⟩) ?_ ?_
  rotate_left
  · intro w'
    go_simp
    with_reducible rfl
  rotate_left
  · simp only [Act.put, List.setIfInBounds_toArray, List.set_cons_zero, List.set_cons_succ, i64_w, i32_w]
    rfl
  refine pure_ (i := 12) (N := some 4) (v := ?_) (a' := ?_) #[true, true, true, true, true, true, true, true, true, true, true, true, true] rfl rfl (by kernel_rfl) (fun _ _ _ h => h) (Or.inl ⟨by rfl, ?_⟩) ?_ ?_
  rotate_left
  · intro w'
    go_simp
    with_reducible rfl
  rotate_left
  · simp only [Act.put, List.setIfInBounds_toArray, List.set_cons_zero, List.set_cons_succ, i64_w, i32_w]
    rfl
  refine done_ (by kernel_rfl) ?_
  go_wp2
  go_ret
  exact ⟨rfl, below_step (below_step ((H1.out.alloc H1.out.size _).drew) H2.out) H3.out⟩
end Go.Proofs.Ytelmkcbakeccoaa
