/- vcd: the walk of VcdCodes. -/
import Derived.Test.YtmfnjmecnhagmaaWt
namespace Go.Proofs.Ytmfnjmecnhagmaa
open Go.RowKit Go.ChangeShapes Go.WideShapes Go.Shelf Go.Maps Go.Proofs.YtmfnjmecnhagmaaW.PrintWords Go.Proofs.YtmfnjmecnhagmaaW.PrintLast Go.Proofs.YtmfnjmecnhagmaaW.PrintMore Go.Proofs.Ytmfnjmecnhagmaa.Pr
set_option linter.unusedVariables false
set_option linter.unusedSimpArgs false
theorem kv_inj {p q : Hf × Hf} (h : kv p = kv q) : p = q := by
  obtain ⟨⟨a1, a2, a3⟩, a4, a5, a6⟩ := p
  obtain ⟨⟨b1, b2, b3⟩, b4, b5, b6⟩ := q
  simp only [kv, Value.agg.injEq, Array.mk.injEq, List.cons.injEq, Value.int.injEq, true_and, and_true] at h
  obtain ⟨rfl, rfl, rfl, rfl, rfl, rfl⟩ := h
  rfl
set_option maxRecDepth 100000 in
theorem eq25 (w : World) {p q : Hf × Hf} (hp : wfP p) (hq : wfP q) : (Op.equal 25 (kv p) (kv q)).run Try.prog w = .ok (decide (p = q)) w := by
  obtain ⟨r, hr, hiff⟩ := run_equal_deep (P := Try.prog) w (m := 3) (by omega) (show Try.prog.keyTypeAt 3 25 = true by kernel_rfl) wide25 (keyOf25 hp) (keyOf25 hq)
  rw [hr]
  congr 1
  cases r with
  | true => exact (decide_eq_true (klit_inj hp hq (hiff.1 rfl))).symm
  | false => exact (decide_eq_false (fun e => by have := hiff.2 (by rw [e]); cases this)).symm
theorem tab_apart : ∀ i k : Nat, i < 256 → k < i → tabAt i ≠ tabAt k := by
  have h : (List.range 256).all (fun i => (List.range i).all (fun k => decide (tabAt i ≠ tabAt k))) = true := by decide +kernel
  intro i k hi hk
  have h1 := List.all_eq_true.1 (List.all_eq_true.1 h i (List.mem_range.2 hi)) k (List.mem_range.2 hk)
  exact of_decide_eq_true h1
theorem wfn (n : Int) (h : -1 ≤ n ∧ n ≤ 300) : wfI n := WalkArith.wf_i64 (by omega)
def fnd (m : Nat) (i : Nat) : Bool := (List.range i).any (fun j => decide (tabAt j = ((3, 0, (m : Int)), hz)))
theorem fnd_s (m i : Nat) : fnd m (i + 1) = (fnd m i || decide (tabAt i = ((3, 0, (m : Int)), hz))) := by simp [fnd, List.range_succ]
theorem fnd_all : ∀ m, m < 9 → fnd m 256 = true := by decide +kernel
set_option maxRecDepth 100000 in
set_option maxHeartbeats 16000000 in
theorem walk_vcdCodes (w : World) : Calls Try.prog 5 #[] w fun e w' => e = .returned (.bool true) ∧ Below w.heap.size w w' := by
  go_enter Try.func5, Try.ntmps5
  go_wp2_with fail
  refine (table_c w).mono ?_
  rintro e w1 ⟨c, rfl, hc, hb1⟩
  obtain ⟨W3, hW3, hg, hi, hsz, hone, htv, hb3⟩ := TV.start (w := w) (w1 := w1) hc
  have HW3 := Hd.mk hW3
  have HX := Hd.mk (And.intro hg (And.intro hi (And.intro hsz hone)))
  have HT3 := Hd.mk htv
  have HB3 := Hd.mk (below_step hb1 hb3)
  clear hW3 hg hi hsz hone htv hb1 hb3 hc
  go_wp2_with (first | (refine wpList_alloc rfl 26 rfl _ zero26 ?_) | (refine wpList_store_row rfl 26 _ _ rfl w1.heap.size c rfl rfl 26 _ HX.out.1 HX.out.2.1 HX.out.2.2.1 HX.out.2.2.2 ?_; rw [HW3.out]) | fail)
  clear HX HW3
  obtain ⟨gt, hgt⟩ : ∃ g, w1.heap.size = g := ⟨_, rfl⟩
  simp only [hgt]
  rw [hgt] at HT3
  clear hgt
  go_loopg [2] 256 (fun k v2 W => ∃ i : Nat, v2 = .int .i64 i ∧ i + k = 256 ∧ Hd (TV W gt c) ∧ Hd (Below w.heap.size w W))
  case atStart => exact ⟨0, rfl, by omega, HT3, HB3⟩
  case round =>
    clear HT3 HB3
    obtain ⟨i, rfl, hk, HT, HB⟩ := hrel
    rcases gk with _ | q
    rotate_left
    · have hlt : decide ((i : Int) < 256) = true := decide_eq_true (by omega)
      have hi : i < 256 := by omega
      go_wp2
      go_loopg [3] i (fun k v3 W => ∃ j : Nat, v3 = .int .i64 j ∧ j + k = i ∧ Hd (TV W gt c) ∧ Hd (Below w.heap.size w W))
      case atStart => exact ⟨0, rfl, by omega, HT, HB⟩
      case round =>
        clear HT HB
        obtain ⟨j, rfl, hk2, HT, HB⟩ := hrel
        rcases gk with _ | q2
        · have hlt2 : decide ((j : Int) < (i : Int)) = false := decide_eq_false (by omega)
          go_wp2
          go_roundg q
          case measure => omega
          case rel => exact ⟨i + 1, by go_num, by omega, HT, HB⟩
        · have hlt2 : decide ((j : Int) < (i : Int)) = true := decide_eq_true (by omega)
          have hji : j < i := by omega
          have hng : decide ((0 : Int) ≤ (i : Int)) = true := decide_eq_true (by omega)
          have hng2 : decide ((0 : Int) ≤ (j : Int)) = true := decide_eq_true (by omega)
          have hi2 : (i : Int) < 256 := by omega
          have hj2 : (j : Int) < 256 := by omega
          have hap := tab_apart i j hi hji
          have hw1 := wf_tab i hi
          have hw2 := wf_tab j (by omega)
          obtain ⟨p, hp⟩ : ∃ p, tabAt i = p := ⟨_, rfl⟩
          obtain ⟨p2, hp2⟩ : ∃ p, tabAt j = p := ⟨_, rfl⟩
          rw [hp, hp2] at hap
          rw [hp] at hw1
          rw [hp2] at hw2
          have heq : ∀ W : World, (Op.equal 25 (kv p) (kv p2)).run Try.prog W = .ok false W := fun W => by rw [eq25 W hw1 hw2, decide_eq_false hap]
          obtain ⟨⟨k1, s1, m1⟩, k2, s2, m2⟩ := p
          obtain ⟨⟨a1, b1, d1⟩, a2, b2, d2⟩ := p2
          have heq : ∀ W : World, (Op.equalIn 10000 25 (.agg #[.int .i64 k1, .int .i64 s1, .int .i64 m1, .int .i64 k2, .int .i64 s2, .int .i64 m2]) (.agg #[.int .i64 a1, .int .i64 b1, .int .i64 d1, .int .i64 a2, .int .i64 b2, .int .i64 d2])).run Try.prog W = .ok false W := heq
          obtain ⟨x0, x1, x2, x3, x4, x5⟩ := HT.out.at_ hi hp
          obtain ⟨y0, y1, y2, y3, y4, y5⟩ := HT.out.at_ (by omega) hp2
          clear hp hp2 hap hw1 hw2
          go_wp2
          refine start_ (n := 7) (S := fun w' => w'.cell? ⟨gt, i * 6, none⟩ = some (.int .i64 k1) ∧ w'.cell? ⟨gt, i * 6 + 1, none⟩ = some (.int .i64 s1) ∧ w'.cell? ⟨gt, i * 6 + 2, none⟩ = some (.int .i64 m1) ∧ w'.cell? ⟨gt, i * 6 + 3, none⟩ = some (.int .i64 k2) ∧ w'.cell? ⟨gt, i * 6 + 4, none⟩ = some (.int .i64 s2) ∧ w'.cell? ⟨gt, i * 6 + 5, none⟩ = some (.int .i64 m2) ∧ w'.cell? ⟨gt, j * 6, none⟩ = some (.int .i64 a1) ∧ w'.cell? ⟨gt, j * 6 + 1, none⟩ = some (.int .i64 b1) ∧ w'.cell? ⟨gt, j * 6 + 2, none⟩ = some (.int .i64 d1) ∧ w'.cell? ⟨gt, j * 6 + 3, none⟩ = some (.int .i64 a2) ∧ w'.cell? ⟨gt, j * 6 + 4, none⟩ = some (.int .i64 b2) ∧ w'.cell? ⟨gt, j * 6 + 5, none⟩ = some (.int .i64 d2)) (ds := []) #[false, false, false, false, false, false, false] (by kernel_rfl) rfl rfl ⟨x0, x1, x2, x3, x4, x5, y0, y1, y2, y3, y4, y5⟩ (fun hHeld => ?_)
          refine pure_ (i := 0) (N := some 17) (v := ?_) (a' := ?_) #[true, false, false, false, false, false, false] rfl rfl (by kernel_rfl) (fun _ _ _ h => h) (Or.inl ⟨by rfl, ?_⟩) ?_ ?_
          rotate_left
          · intro w'
            go_simp
            with_reducible rfl
          rotate_left
          · simp only [Act.put, List.setIfInBounds_toArray, List.set_cons_zero, List.set_cons_succ, i64_w, i32_w]
            rfl
          refine pure_ (i := 1) (N := some 18) (v := ?_) (a' := ?_) #[true, true, false, false, false, false, false] rfl rfl (by kernel_rfl) (fun _ _ _ h => h) (Or.inl ⟨by rfl, ?_⟩) ?_ ?_
          rotate_left
          · intro w'
            go_simp
            with_reducible rfl
          rotate_left
          · simp only [Act.put, List.setIfInBounds_toArray, List.set_cons_zero, List.set_cons_succ, i64_w, i32_w]
            rfl
          refine pure_ (i := 3) (N := some 20) (v := ?_) (a' := ?_) #[true, true, false, true, false, false, false] rfl rfl (by kernel_rfl) (fun _ _ _ h => h) (Or.inl ⟨by rfl, ?_⟩) ?_ ?_
          rotate_left
          · intro w'
            go_simp
            with_reducible rfl
          rotate_left
          · simp only [Act.put, List.setIfInBounds_toArray, List.set_cons_zero, List.set_cons_succ, i64_w, i32_w]
            rfl
          refine pure_ (i := 4) (N := some 21) (v := ?_) (a' := ?_) #[true, true, false, true, true, false, false] rfl rfl (by kernel_rfl) (fun _ _ _ h => h) (Or.inl ⟨by rfl, ?_⟩) ?_ ?_
          rotate_left
          · intro w'
            go_simp
            with_reducible rfl
          rotate_left
          · simp only [Act.put, List.setIfInBounds_toArray, List.set_cons_zero, List.set_cons_succ, i64_w, i32_w]
            rfl
          refine take_ (i := 2) (N := some 19) (v := ?_) (a' := ?_) #[true, true, true, true, true, false, false] rfl rfl (by kernel_rfl) (fun _ _ _ h => h) (Or.inl ⟨by rfl, ?_⟩) hHeld ?_ ?_
          rotate_left
          · rintro w' ⟨s0, s1, s2, s3, s4, s5, s6, s7, s8, s9, s10, s11⟩
            go_simp
            with_reducible rfl
          rotate_left
          · simp only [Act.put, List.setIfInBounds_toArray, List.set_cons_zero, List.set_cons_succ, i64_w, i32_w]
            rfl
          refine take_ (i := 5) (N := some 22) (v := ?_) (a' := ?_) #[true, true, true, true, true, true, false] rfl rfl (by kernel_rfl) (fun _ _ _ h => h) (Or.inl ⟨by rfl, ?_⟩) hHeld ?_ ?_
          rotate_left
          · rintro w' ⟨s0, s1, s2, s3, s4, s5, s6, s7, s8, s9, s10, s11⟩
            go_simp
            with_reducible rfl
          rotate_left
          · simp only [Act.put, List.setIfInBounds_toArray, List.set_cons_zero, List.set_cons_succ, i64_w, i32_w]
            rfl
          refine pure_ (i := 6) (N := some 23) (v := ?_) (a' := ?_) #[true, true, true, true, true, true, true] rfl rfl (by kernel_rfl) (fun _ _ _ h => h) (Or.inl ⟨by rfl, ?_⟩) ?_ ?_
          rotate_left
          · intro w'
            go_simp
            with_reducible rfl
          rotate_left
          · simp only [Act.put, List.setIfInBounds_toArray, List.set_cons_zero, List.set_cons_succ, i64_w, i32_w]
            rfl
          refine done_ (by kernel_rfl) ?_
          have hdr := Below.drew' wr
          have HT2 := Hd.mk (HT.out.below hdr)
          have HB2 := Hd.mk (below_step HB.out hdr)
          obtain ⟨wd, hwd⟩ : ∃ v, wr.drew = v := ⟨_, rfl⟩
          rw [hwd] at HT2 HB2 ⊢
          clear hHeld hwd hdr x0 x1 x2 x3 x4 x5 y0 y1 y2 y3 y4 y5 heq HT HB
          go_wp2
          go_roundg q2
          case measure => omega
          case rel => exact ⟨j + 1, by go_num, by omega, HT2, HB2⟩
    have hlt : decide ((i : Int) < 256) = false := decide_eq_false (by omega)
    go_wp2
    clear hlt hk
    go_loopg [4] 9 (fun k v4 W => ∃ m : Nat, v4 = .int .i64 m ∧ m + k = 9 ∧ Hd (TV W gt c) ∧ Hd (Below w.heap.size w W))
    case atStart => exact ⟨0, rfl, by omega, HT, HB⟩
    case round =>
      clear HT HB
      obtain ⟨m, rfl, hk, HT, HB⟩ := hrel
      rcases gk with _ | q
      · have hlt : decide ((m : Int) < 9) = false := decide_eq_false (by omega)
        go_wp2_with fail
        refine (awake_c _).mono ?_
        rintro e w5 ⟨rfl, hb5⟩
        have HB5 := Hd.mk (below_step HB.out hb5)
        clear hb5
        go_wp2
        go_ret
        exact ⟨rfl, HB5.out⟩
      · have hlt : decide ((m : Int) < 9) = true := decide_eq_true (by omega)
        have hm : m < 9 := by omega
        go_wp2
        go_loopg [5, 6] 256 (fun k v5 v6 W => ∃ i : Nat, v5 = .bool (fnd m i) ∧ v6 = .int .i64 i ∧ i + k = 256 ∧ Hd (TV W gt c) ∧ Hd (Below w.heap.size w W))
        case atStart => exact ⟨0, rfl, rfl, by omega, HT, HB⟩
        case round =>
          clear HT HB
          obtain ⟨i, rfl, rfl, hk2, HT, HB⟩ := hrel
          rcases gk with _ | q2
          · have hlt2 : decide ((i : Int) < 256) = false := decide_eq_false (by omega)
            have hf : fnd m i = true := by rw [show i = 256 by omega]; exact fnd_all m hm
            rw [hf]
            clear hf
            go_wp2
            go_roundg q
            case measure => omega
            case rel => exact ⟨m + 1, by go_num, by omega, HT, HB⟩
          · have hlt2 : decide ((i : Int) < 256) = true := decide_eq_true (by omega)
            have hi : i < 256 := by omega
            have hng : decide ((0 : Int) ≤ (i : Int)) = true := decide_eq_true (by omega)
            have hi2 : (i : Int) < 256 := by omega
            have hs := fnd_s m i
            have hw1 := wf_tab i hi
            have hw2 : wfP ((3, 0, (m : Int)), hz) := ⟨⟨wfn 3 (by omega), wfn 0 (by omega), wfn (m : Int) (by omega)⟩, wfn 0 (by omega), wfn 0 (by omega), wfn 0 (by omega)⟩
            obtain ⟨p, hp⟩ : ∃ p, tabAt i = p := ⟨_, rfl⟩
            rw [hp] at hs hw1
            have heq : ∀ W : World, (Op.equal 25 (kv p) (kv ((3, 0, (m : Int)), hz))).run Try.prog W = .ok (decide (p = ((3, 0, (m : Int)), hz))) W := fun W => eq25 W hw1 hw2
            obtain ⟨bb, hbb⟩ : ∃ b, decide (p = ((3, 0, (m : Int)), hz)) = b := ⟨_, rfl⟩
            rw [hbb] at hs heq
            obtain ⟨⟨k1, s1, m1⟩, k2, s2, m2⟩ := p
            have heq : ∀ W : World, (Op.equalIn 10000 25 (.agg #[.int .i64 k1, .int .i64 s1, .int .i64 m1, .int .i64 k2, .int .i64 s2, .int .i64 m2]) (.agg #[.int .i64 3, .int .i64 0, .int .i64 m, .int .i64 0, .int .i64 0, .int .i64 0])).run Try.prog W = .ok bb W := heq
            obtain ⟨x0, x1, x2, x3, x4, x5⟩ := HT.out.at_ hi hp
            have HS := Hd.mk hs
            obtain ⟨fb, hfb⟩ : ∃ b, fnd m i = b := ⟨_, rfl⟩
            rw [hfb] at HS ⊢
            clear hp hw1 hw2 hbb hs hfb
            cases fb with
            | true =>
              clear heq
              go_wp2
              go_roundg q2
              case measure => omega
              case rel => exact ⟨i + 1, by rw [HS.out]; rfl, by go_num, by omega, HT, HB⟩
            | false =>
              go_wp2
              go_roundg q2
              case measure => omega
              case rel => exact ⟨i + 1, by rw [HS.out]; rfl, by go_num, by omega, HT, HB⟩
end Go.Proofs.Ytmfnjmecnhagmaa
