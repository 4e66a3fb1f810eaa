/- crc: the sum does not hang on cuts: the walk of CrcCuts, where all parts together are short. -/
import Derived.Test.YtelmkcbakeccoaaTb
import Derived.Test.YtelmkcbakeccoaaNm
import Derived.Test.YtelmkcbakeccoaaTq
import Derived.Test.YtelmkcbakeccoaaBulk
namespace Go.Proofs.Ytelmkcbakeccoaa
open Go.RowKit Go.Proofs.YtelmkcbakeccoaaW.PrintWords Go.Proofs.YtelmkcbakeccoaaW.PrintLast Go.Proofs.YtelmkcbakeccoaaW.PrintMore
set_option linter.unusedVariables false
set_option linter.unusedSimpArgs false
theorem not_as_xor (a : R) : ~~~ a = BitVec.allOnes 32 ^^^ a := by
  apply BitVec.eq_of_getLsbD_eq
  intro i hi
  have h1 : ∀ i, i < 32 → (BitVec.allOnes 32).getLsbD i = true := by decide
  rw [BitVec.getLsbD_not, BitVec.getLsbD_xor, h1 i hi]
  simp [hi]
theorem cut_more (l : List (List Int)) (j : Nat) (h : j < l.length) : ~~~ runB (~~~ sumOf (l.take j)) (l.getD j []) = sumOf (l.take (j + 1)) := by
  unfold sumOf
  rw [runL_snoc l _ j h]
  simp
theorem cut_join (l : List (List Int)) (j : Nat) (h : j < l.length) : Sn (8 * (l.getD j []).length) (sumOf (l.take j)) ^^^ sumOf [l.getD j []] = sumOf (l.take (j + 1)) := by
  unfold sumOf
  rw [runL_snoc l _ j h]
  obtain ⟨r, hr⟩ : ∃ r, runL (BitVec.allOnes 32) (l.take j) = r := ⟨_, rfl⟩
  obtain ⟨x, hx⟩ : ∃ x, l.getD j [] = x := ⟨_, rfl⟩
  rw [hr, hx]
  have e : r = BitVec.allOnes 32 ^^^ ~~~ r := by rw [not_as_xor, xcl]
  have e2 := runB_lin x (BitVec.allOnes 32) (~~~ r)
  rw [← e] at e2
  rw [e2, show runL (BitVec.allOnes 32) [x] = runB (BitVec.allOnes 32) x from rfl]
  simp only [not_as_xor]
  rw [BitVec.xor_comm (Sn _ _), BitVec.xor_assoc]
theorem take_flat (l : List (List Int)) (j : Nat) (h : j < l.length) : (l.take (j + 1)).flatten = (l.take j).flatten ++ l.getD j [] := by
  rw [List.take_add_one, List.getD_eq_getElem?_getD, List.getElem?_eq_getElem h, List.flatten_append]
  simp
theorem take_flat_le (l : List (List Int)) (j : Nat) : (l.take j).flatten.length ≤ l.flatten.length := by
  conv => rhs; rw [← List.take_append_drop j l]
  rw [List.flatten_append, List.length_append]
  omega
theorem flat_range {l : List (List Int)} (h : ∀ x ∈ l, ∀ y ∈ x, 0 ≤ y ∧ y ≤ 255) : ∀ y ∈ l.flatten, 0 ≤ y ∧ y ≤ 255 := by
  intro y hy
  obtain ⟨x, hx, hy⟩ := List.mem_flatten.1 hy
  exact h x hx y hy
theorem sum_one_d {w : World} {A : Option Addr} {m d : Nat} {l : List Int} (hb : Bs w A m d l) :
    Calls Try.prog 22 #[.slice (some ⟨w.heap.size, 0, none⟩) 1 1] (w.alloc (.cells #[.slice A m d] 23)).drew fun e w' => e = .returned (.int .u32 (W (sumOf [l]))) ∧ Below w.heap.size w w' :=
  (sum_calls _ 1 1 [l] _ ((Ps.one 23 hb).below ((Below.refl _ _).drew)) (Nat.le_refl _)).mono fun e w' ⟨h1, h2⟩ => ⟨h1, below_step (((Below.refl _ _).alloc (Nat.le_refl _) _).drew) h2⟩
set_option maxHeartbeats 2000000 in
theorem walk_crcCuts (a0 : Option Addr) (n0 c0 : Nat) (l : List (List Int)) (w : World) (hf : Ps w a0 n0 l ∧ n0 ≤ c0 ∧ l.flatten.length ≤ 1048576) :
    Calls Try.prog 15 #[.slice a0 n0 c0] w fun e w' => e = .returned (.bool true) ∧ Below w.heap.size w w' := by
  obtain ⟨hP, hc, hl⟩ := hf
  have HP := Hd.mk hP
  have HL := Hd.mk hl
  have HN := Hd.mk hP.len
  have hm := hP.max
  clear hP hl
  go_enter Try.func15, Try.ntmps15
  go_wp2_with fail
  go_at_call 21
  refine (awake_calls _).mono ?_
  rintro e w1 ⟨rfl, h1⟩
  have H1 := Hd.mk h1
  clear h1
  go_wp2_with fail
  go_loopg [3, 4, 5, 6] n0 (fun k u3 u4 u5 y w'' => ∃ j : Nat, y = .int .i64 j ∧ j + k = n0 ∧ Hd (u4 = .int .u32 (W (sumOf (l.take j)))) ∧ Hd (u5 = .int .u32 (W (sumOf (l.take j)))) ∧ Hd (OB w'' w.heap.size u3 (l.take j).flatten) ∧ Hd (Below w.heap.size w w''))
  case atStart => exact ⟨0, rfl, by omega, ⟨by rw [List.take_zero, sum_none]⟩, ⟨by rw [List.take_zero, sum_none]⟩, ⟨own_nil _ _ _ _⟩, H1⟩
  case round =>
    obtain ⟨j, rfl, hj, E4, E5, HO, HW⟩ := hrel
    obtain ⟨r, hr⟩ : ∃ r, sumOf (l.take j) = r := ⟨_, rfl⟩
    have HR := Hd.mk hr
    rw [hr] at E4 E5
    obtain rfl := E4.out
    obtain rfl := E5.out
    clear hr E4 E5
    rcases Nat.eq_zero_or_pos gk with rfl | hp
    · obtain rfl : j = n0 := by omega
      have hr := HR.out
      rw [← HN.out, List.take_length] at hr
      have HO' := HO.out
      rw [← HN.out, List.take_length] at HO'
      obtain ⟨A, c, e, hb⟩ := OB.bs HO' (flat_range HP.out.range)
      obtain ⟨q, hq⟩ : ∃ q, l.flatten.length = q := ⟨_, rfl⟩
      rw [hq] at e hb
      subst e
      clear hq
      have HB := Hd.mk hb
      have HSE := Hd.mk (show sumOf [l.flatten] = r by rw [← hr]; unfold sumOf; rw [runL_flat l]; rfl)
      have HSL := Hd.mk hr
      have HHP := Hd.mk (HP.out.below HW.out)
      clear hr HO' hb HO
      go_wp2_with fail
      go_at_call 22
      refine (sum_one HB.out _ (congrArg W HSE.out)).mono ?_
      rintro e w2 ⟨rfl, h2⟩
      have HP2 := Hd.mk (HHP.out.below h2)
      have H2 := Hd.mk (below_step HW.out h2)
      clear h2
      go_wp2_with fail
      go_at_call 22
      refine (sum_calls _ _ _ l _ HP2.out hc).mono ?_
      rw [HSL.out]
      rintro e w3 ⟨rfl, h3⟩
      have H3 := Hd.mk (below_step H2.out h3)
      clear h3
      go_wp2
      go_ret
      exact ⟨rfl, H3.out⟩
    · obtain ⟨k, rfl⟩ : ∃ k, gk = k + 1 := ⟨gk - 1, by omega⟩
      have hjn : j < n0 := by omega
      have hlt : j < l.length := by rw [HN.out]; exact hjn
      obtain ⟨ad, B, m, d, hA, hcell0, hB⟩ := HP.out.at_ j hjn
      subst hA
      have HK : Hd (∀ w', Below w.heap.size w w' → w'.cell? (ad.add j) = some (.slice B m d)) := ⟨fun w' hb => (hb.cell (World.block_lt_of_cell? w _ hcell0)).trans hcell0⟩
      have hcell := HK.out _ HW.out
      obtain ⟨x, hx⟩ : ∃ x, l.getD j [] = x := ⟨_, rfl⟩
      have hcm := cut_more l j hlt
      have hcj := cut_join l j hlt
      have hfl := take_flat l j hlt
      have hle := take_flat_le l (j + 1)
      rw [hfl, List.length_append] at hle
      rw [hx] at hB hcm hcj hfl hle
      rw [HR.out] at hcm hcj
      have HB := Hd.mk hB
      have HCM := Hd.mk hcm
      have HCJ := Hd.mk hcj
      have HFL := Hd.mk hfl
      have hml := HB.out.len
      have hfit : (l.take j).flatten.length + m ≤ 1048576 := by have := HL.out; omega
      have hws := HW.out.size
      have HX := Hd.mk hx
      have HM := Hd.mk hml
      clear hB hcm hcj hfl hle hx hml hlt hcell0
      go_wp2_with (first
        | (at_builtin; go_must (refine wpList_app (v := u3) (n := (l.take j).flatten.length) (xs := nums .u8 (l.take j).flatten) (m := m) rfl _ _ _ rfl w.heap.size eltB rfl rfl HO.out (Src.of_C (HB.out.below HW.out).C) (by omega) hws ?_); intro v3 w3 f1 f2 f3 _; have H3 := Hd.mk (below_app HW.out HO.out f2.out (Nat.le_refl _)); have hc3 := HK.out w3 H3.out; have HO3 : Hd (OB w3 w.heap.size v3 ((l.take j).flatten ++ x)) := ⟨OB.snoc f1.out (by rw [HM.out])⟩; clear f1 f2 f3))
      go_at_call 17
      refine (more_calls _ _ _ _ x _ (HB.out.below H3.out).C HB.out.hc HB.out.hr).mono ?_
      rw [HCM.out]
      rintro e w4 ⟨rfl, h4⟩
      have H4 := Hd.mk (below_step H3.out h4)
      have HO4 := Hd.mk (HO3.out.below h4)
      clear h4 hc3 hcell H3 HO3
      have hc4 := HK.out w4 H4.out
      have H4d := Hd.mk (H4.out.drew)
      have HBd : Hd (Bs w4 B m d x) := ⟨HB.out.below H4.out⟩
      go_wp2_with fail
      refine start_ (n := 18) (S := fun w' => w'.cell? (ad.add j) = some (.slice B m d)) (ds := []) #[false, false, false, false, false, false, false, false, false, false, false, false, false, false, false, false, false, false] (by kernel_rfl) rfl rfl (HK.out _ H4d.out) (fun hHeld => ?_)
      refine pure_ (i := 0) (N := some 31) (v := ?_) (a' := ?_) #[true, false, false, false, false, false, false, false, false, false, false, false, false, false, false, false, false, false] rfl rfl (by kernel_rfl) (fun _ _ _ h => h) (Or.inl ⟨by rfl, ?_⟩) ?_ ?_
      rotate_left
      · intro w'
        go_simp
        with_reducible rfl
      rotate_left
      · simp only [Act.put, List.setIfInBounds_toArray, List.set_cons_zero, List.set_cons_succ, i64_w, i32_w]
        rfl
      refine pure_ (i := 1) (N := some 32) (v := ?_) (a' := ?_) #[true, true, false, false, false, false, false, false, false, false, false, false, false, false, false, false, false, false] rfl rfl (by kernel_rfl) (fun _ _ _ h => h) (Or.inl ⟨by rfl, ?_⟩) ?_ ?_
      rotate_left
      · intro w'
        go_simp
        with_reducible rfl
      rotate_left
      · simp only [Act.put, List.setIfInBounds_toArray, List.set_cons_zero, List.set_cons_succ, i64_w, i32_w]
        rfl
      refine pure_ (i := 2) (N := some 33) (v := ?_) (a' := ?_) #[true, true, true, false, false, false, false, false, false, false, false, false, false, false, false, false, false, false] rfl rfl (by kernel_rfl) (fun _ _ _ h => h) (Or.inl ⟨by rfl, ?_⟩) ?_ ?_
      rotate_left
      · intro w'
        go_simp
        with_reducible rfl
      rotate_left
      · simp only [Act.put, List.setIfInBounds_toArray, List.set_cons_zero, List.set_cons_succ, i64_w, i32_w]
        rfl
      refine pure_ (i := 3) (N := some 34) (v := ?_) (a' := ?_) #[true, true, true, true, false, false, false, false, false, false, false, false, false, false, false, false, false, false] rfl rfl (by kernel_rfl) (fun _ _ _ h => h) (Or.inl ⟨by rfl, ?_⟩) ?_ ?_
      rotate_left
      · intro w'
        go_simp
        with_reducible rfl
      rotate_left
      · simp only [Act.put, List.setIfInBounds_toArray, List.set_cons_zero, List.set_cons_succ, i64_w, i32_w]
        rfl
      refine pure_ (i := 7) (N := some 38) (v := ?_) (a' := ?_) #[true, true, true, true, false, false, false, true, false, false, false, false, false, false, false, false, false, false] rfl rfl (by kernel_rfl) (fun _ _ _ h => h) (Or.inl ⟨by rfl, ?_⟩) ?_ ?_
      rotate_left
      · intro w'
        go_simp
        with_reducible rfl
      rotate_left
      · simp only [Act.put, List.setIfInBounds_toArray, List.set_cons_zero, List.set_cons_succ, i64_w, i32_w]
        rfl
      refine pure_ (i := 8) (N := some 39) (v := ?_) (a' := ?_) #[true, true, true, true, false, false, false, true, true, false, false, false, false, false, false, false, false, false] rfl rfl (by kernel_rfl) (fun _ _ _ h => h) (Or.inl ⟨by rfl, ?_⟩) ?_ ?_
      rotate_left
      · intro w'
        go_simp
        with_reducible rfl
      rotate_left
      · simp only [Act.put, List.setIfInBounds_toArray, List.set_cons_zero, List.set_cons_succ, i64_w, i32_w]
        rfl
      refine pure_ (i := 9) (N := some 40) (v := ?_) (a' := ?_) #[true, true, true, true, false, false, false, true, true, true, false, false, false, false, false, false, false, false] rfl rfl (by kernel_rfl) (fun _ _ _ h => h) (Or.inl ⟨by rfl, ?_⟩) ?_ ?_
      rotate_left
      · intro w'
        go_simp
        with_reducible rfl
      rotate_left
      · simp only [Act.put, List.setIfInBounds_toArray, List.set_cons_zero, List.set_cons_succ, i64_w, i32_w]
        rfl
      refine take_ (i := 4) (N := some 35) (v := ?_) (a' := ?_) #[true, true, true, true, true, false, false, true, true, true, false, false, false, false, false, false, false, false] rfl rfl (by kernel_rfl) (fun _ _ _ h => h) (Or.inl ⟨by rfl, ?_⟩) hHeld ?_ ?_
      rotate_left
      · intro w' s0
        go_simp
        with_reducible rfl
      rotate_left
      · simp only [Act.put, List.setIfInBounds_toArray, List.set_cons_zero, List.set_cons_succ, i64_w, i32_w]
        rfl
      refine take_ (i := 10) (N := some 41) (v := ?_) (a' := ?_) #[true, true, true, true, true, false, false, true, true, true, true, false, false, false, false, false, false, false] rfl rfl (by kernel_rfl) (fun _ _ _ h => h) (Or.inl ⟨by rfl, ?_⟩) hHeld ?_ ?_
      rotate_left
      · intro w' s0
        go_simp
        with_reducible rfl
      rotate_left
      · simp only [Act.put, List.setIfInBounds_toArray, List.set_cons_zero, List.set_cons_succ, i64_w, i32_w]
        rfl
      refine pure_ (i := 11) (N := some 42) (v := ?_) (a' := ?_) #[true, true, true, true, true, false, false, true, true, true, true, true, false, false, false, false, false, false] rfl rfl (by kernel_rfl) (fun _ _ _ h => h) (Or.inl ⟨by rfl, ?_⟩) ?_ ?_
      rotate_left
      · intro w'
        go_simp
        with_reducible rfl
      rotate_left
      · simp only [Act.put, List.setIfInBounds_toArray, List.set_cons_zero, List.set_cons_succ, i64_w, i32_w]
        rfl
      refine one_ (i := 5) (N := some 36) #[true, true, true, true, true, true, false, true, true, true, true, true, false, false, false, false, false, false] rfl rfl (by kernel_rfl) (by decide) (fun K hK => ?_)
      refine value_ (w1 := ?_) (v := ?_) (by rfl) rfl ?_ ?_
      rotate_left 2
      · go_simp
        constructor
        · rfl
        · rfl
      refine hK.out _ _ (HK.out _ (H4d.out.alloc H4d.out.size _)) (fun hHeld => ?_)
      clear hK K
      refine norm_ (a' := ?_) ?_ ?_
      rotate_left
      · show Act.put _ (some 36) _ = _
        simp only [Act.put, List.setIfInBounds_toArray, List.set_cons_zero, List.set_cons_succ, i64_w, i32_w]
        rfl
      refine one_ (i := 6) (N := some 37) #[true, true, true, true, true, true, true, true, true, true, true, true, false, false, false, false, false, false] rfl rfl (by kernel_rfl) (by decide) (fun K hK => ?_)
      refine goes_ Try.func22 (by kernel_rfl) rfl #[.slice (some ⟨w4.heap.size, 0, none⟩) 1 1] (by rfl) rfl rfl (by simp only [List.map_toArray, List.map_cons, List.map_nil]; rfl) ?_
      with_reducible refine (sum_one_d HBd.out).mono ?_
      rintro e w5 ⟨rfl, h5⟩
      refine ⟨_, rfl, ?_⟩
      have H5 := Hd.mk (below_step H4.out h5)
      have HO5 := Hd.mk (HO4.out.below h5)
      clear h5
      refine hK.out _ _ (HK.out _ H5.out) (fun hHeld => ?_)
      clear hK K
      refine norm_ (a' := ?_) ?_ ?_
      rotate_left
      · show Act.put _ (some 37) _ = _
        simp only [Act.put, List.setIfInBounds_toArray, List.set_cons_zero, List.set_cons_succ, i64_w, i32_w]
        rfl
      refine one_ (i := 12) (N := some 43) #[true, true, true, true, true, true, true, true, true, true, true, true, true, false, false, false, false, false] rfl rfl (by kernel_rfl) (by decide) (fun K hK => ?_)
      refine goes_ Try.func30 (by kernel_rfl) rfl #[.int .u32 (W r), .int .u32 (W (sumOf [x])), .int .i64 m] (by rfl) rfl rfl (by simp only [List.map_toArray, List.map_cons, List.map_nil]; rfl) ?_
      with_reducible refine (join_ok r (sumOf [x]) m (by omega) _).mono ?_
      rintro e w6 ⟨rfl, rfl⟩
      refine ⟨_, rfl, ?_⟩
      refine hK.out _ _ (HK.out _ H5.out) (fun hHeld => ?_)
      clear hK K
      refine norm_ (a' := ?_) ?_ ?_
      rotate_left
      · show Act.put _ (some 43) _ = _
        simp only [Act.put, List.setIfInBounds_toArray, List.set_cons_zero, List.set_cons_succ, i64_w, i32_w]
        rfl
      refine pure_ (i := 13) (N := some 30) (v := ?_) (a' := ?_) #[true, true, true, true, true, true, true, true, true, true, true, true, true, true, false, false, false, false] rfl rfl (by kernel_rfl) (fun _ _ _ h => h) (Or.inl ⟨by rfl, ?_⟩) ?_ ?_
      rotate_left
      · intro w'
        go_simp
        with_reducible rfl
      rotate_left
      · simp only [Act.put, List.setIfInBounds_toArray, List.set_cons_zero, List.set_cons_succ, i64_w, i32_w]
        rfl
      refine pure_ (i := 14) (N := some 44) (v := ?_) (a' := ?_) #[true, true, true, true, true, true, true, true, true, true, true, true, true, true, true, false, false, false] rfl rfl (by kernel_rfl) (fun _ _ _ h => h) (Or.inl ⟨by rfl, ?_⟩) ?_ ?_
      rotate_left
      · intro w'
        go_simp
        with_reducible rfl
      rotate_left
      · simp only [Act.put, List.setIfInBounds_toArray, List.set_cons_zero, List.set_cons_succ, i64_w, i32_w]
        rfl
      refine pure_ (i := 15) (N := some 45) (v := ?_) (a' := ?_) #[true, true, true, true, true, true, true, true, true, true, true, true, true, true, true, true, false, false] rfl rfl (by kernel_rfl) (fun _ _ _ h => h) (Or.inl ⟨by rfl, ?_⟩) ?_ ?_
      rotate_left
      · intro w'
        go_simp
        with_reducible rfl
      rotate_left
      · simp only [Act.put, List.setIfInBounds_toArray, List.set_cons_zero, List.set_cons_succ, i64_w, i32_w]
        rfl
      refine pure_ (i := 16) (N := some 7) (v := ?_) (a' := ?_) #[true, true, true, true, true, true, true, true, true, true, true, true, true, true, true, true, true, false] rfl rfl (by kernel_rfl) (fun _ _ _ h => h) (Or.inl ⟨by rfl, ?_⟩) ?_ ?_
      rotate_left
      · intro w'
        go_simp
        with_reducible rfl
      rotate_left
      · simp only [Act.put, List.setIfInBounds_toArray, List.set_cons_zero, List.set_cons_succ, i64_w, i32_w]
        rfl
      refine pure_ (i := 17) (N := some 8) (v := ?_) (a' := ?_) #[true, true, true, true, true, true, true, true, true, true, true, true, true, true, true, true, true, true] rfl rfl (by kernel_rfl) (fun _ _ _ h => h) (Or.inl ⟨by rfl, ?_⟩) ?_ ?_
      rotate_left
      · intro w'
        go_simp
        with_reducible rfl
      rotate_left
      · simp only [Act.put, List.setIfInBounds_toArray, List.set_cons_zero, List.set_cons_succ, i64_w, i32_w]
        rfl
      refine done_ (by kernel_rfl) ?_
      rw [← HFL.out] at HO5
      go_wp2
      go_roundg k
      case measure => omega
      case rel => exact ⟨j + 1, by go_num, by omega, ⟨rfl⟩, ⟨by rw [← HCJ.out, HM.out]⟩, HO5, H5⟩
open Go.ChangeShapes Go.WideShapes
theorem flat_bulk {H : Type} {l : List (List Int)} {D : Nat → DataW H} (h : ∀ i, i < l.length → (l.getD i []).length ≤ Rows.uptoBulk (D i)) :
    ∀ n, n ≤ l.length → (l.take n).flatten.length ≤ Rows.uptoBulkAll ((List.range n).map D)
  | 0, _ => by simp
  | n + 1, hn => by
    rw [take_flat l n hn, List.length_append, List.range_succ, List.map_append, bulks.append]
    have h1 := flat_bulk h n (by omega)
    have h2 := h n hn
    simp only [List.map_cons, List.map_nil, Rows.uptoBulkAll]
    omega
theorem open_cuts {H : Type} {enc : TypeId × Value → H} {W : World} {base : Nat} {v : Value} {d : DataW H} {p : List MemPlace} (hv : Value.okWide Try.prog W .any base 31 v)
    (h : DataW.Trod enc Try.prog W 0 (fun _ => true) true 31 v d p) (_ : ∀ n ∈ d.weights Try.prog 31, n ≤ reachBytes) (hbk : Rows.uptoBulk d ≤ 1048576) :
    ∃ (a : Option Addr) (len cap : Nat) (l : List (List Int)), v = .slice a len cap ∧ (Ps W a len l ∧ len ≤ cap ∧ l.flatten.length ≤ 1048576) := by
  obtain ⟨a, len, cap, rfl⟩ := okWide_slice Try.underlying31 hv
  refine ⟨a, len, cap, ?_⟩
  obtain ⟨fuel, hf⟩ := h
  rcases Go.Deep.open_slice1 Try.underlying31 (by kernel_rfl) hf with ⟨hcs, _⟩ | ⟨x, l, c, m, n, V, D, Pl, hcs, _, hl, hm, hmm, hx, hV⟩
  · simp [Value.cells] at hcs
    obtain ⟨rfl, rfl, rfl⟩ := hcs
    exact ⟨[], rfl, Ps.none, by omega, by simp⟩
  · simp [Value.cells] at hcs
    obtain ⟨rfl, rfl, rfl⟩ := hcs
    obtain ⟨hx, _⟩ := Prod.mk.inj hx
    subst hx
    have hlm : len ≤ m := by rw [hmm]; split <;> omega
    have z := bulks.slice_elems ((List.range len).map D) ((List.range (m - len)).map fun j => D (len + j))
    have zl := bulks.slice_le ((List.range len).map D) ((List.range (m - len)).map fun j => D (len + j))
    simp only [List.length_map, List.length_range] at zl
    have key : ∀ i, i < len → ∃ xs : List Int, xs.length ≤ Rows.uptoBulk (D i) ∧ ∃ B q r, W.cell? (x.add i) = some (.slice B q r) ∧ Bs W B q r xs := by
      intro i hi
      obtain ⟨h1, h2⟩ := hV i (by omega)
      rcases open_ints Try.underlying23 Try.underlying5 (by kernel_rfl) h2 with ⟨hcs, _⟩ | ⟨x', l', c', zs, hcs, _, hl', hm', hz', hx', hcell, hwz⟩
      · have hv : V i = .slice none 0 0 := (List.cons.inj hcs).1
        obtain ⟨xs, hB⟩ := IsRow.bytes (w := W) (a := none) (len := 0) (cap := 0) (zs := []) (.inl ⟨rfl, rfl, rfl, rfl⟩)
        exact ⟨xs, by rw [hB.len]; omega, none, 0, 0, by rw [h1, hv], hB⟩
      · have hv : V i = .slice (some x') l' c' := (List.cons.inj hcs).1
        obtain ⟨xs, hB⟩ := IsRow.bytes (w := W) (a := some x') (len := l') (cap := c') (zs := zs) (.inr ⟨x', rfl, hl', hm', by simpa using hz', hcell, hwz⟩)
        refine ⟨xs, ?_, some x', l', c', by rw [h1, hv], hB⟩
        have hD : D i = .slice (lits .u8 (zs.take l')) (lits .u8 (zs.drop l')) := (Prod.mk.inj hx').1
        have hs := bulks.slice_le (lits (H := H) .u8 (zs.take l')) (lits (H := H) .u8 (zs.drop l'))
        rw [hD, hB.len]
        have hll : l' ≤ zs.length := by simp at hz'; omega
        simp only [lits, List.length_map, List.length_take, List.length_drop] at hs ⊢
        omega
    obtain ⟨l, hl0, hl1⟩ := list_of (α := List Int) [] len _ key
    refine ⟨l, rfl, ⟨hl0, by omega, ?_⟩, hl, ?_⟩
    · intro i hi
      obtain ⟨_, B, q, r, h1, h2⟩ := hl1 i hi
      exact ⟨x, B, q, r, rfl, h1, h2⟩
    · have hfb := flat_bulk (l := l) (D := D) (fun i hi => (hl1 i (by omega)).1) l.length (Nat.le_refl _)
      rw [List.take_length, hl0] at hfb
      omega
end Go.Proofs.Ytelmkcbakeccoaa
