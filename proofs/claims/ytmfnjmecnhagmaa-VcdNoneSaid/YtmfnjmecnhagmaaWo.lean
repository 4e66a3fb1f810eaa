/- vcd: the walk of VcdNone. -/
import Derived.Test.YtmfnjmecnhagmaaAw
namespace Go.Proofs.Ytmfnjmecnhagmaa
open Go.RowKit Go.ChangeShapes Go.WideShapes Go.Shelf Go.Maps Go.Proofs.YtmfnjmecnhagmaaW.PrintWords Go.Proofs.YtmfnjmecnhagmaaW.PrintLast Go.Proofs.YtmfnjmecnhagmaaW.PrintMore Go.Proofs.Ytmfnjmecnhagmaa.Pr
set_option linter.unusedVariables false
set_option linter.unusedSimpArgs false
/-- A cache that no call made. -/
def NC (W : World) (v : Value) : Prop := v = .pointer none ∨ ∃ g, v = .pointer (some ⟨g, 0, none⟩) ∧ W.cell? ⟨g, 0, none⟩ = some (.bool false)
theorem NC.below {W W' : World} {v : Value} (h : NC W v) (hb : Below W.heap.size W W') : NC W' v := by
  rcases h with h | ⟨g, h1, h2⟩
  · exact .inl h
  · exact .inr ⟨g, h1, pw_cell_below hb h2⟩
theorem is_n {W : World} {v : Value} (h : NC W v) : Calls Try.prog 49 #[v] W fun e w' => e = .returned (.bool false) ∧ w' = W := by
  rcases h with rfl | ⟨g, rfl, h2⟩
  · go_enter Try.func49, Try.ntmps49
    go_wp2
    go_ret
    exact ⟨rfl, rfl⟩
  · go_enter Try.func49, Try.ntmps49
    go_wp2
    go_ret
    exact ⟨rfl, rfl⟩
set_option maxRecDepth 100000 in
set_option maxHeartbeats 4000000 in
theorem tell_n {W : World} {v : Value} (h : NC W v) (addr here : Int) : Calls Try.prog 31 #[v, .int .i64 addr, .int .i64 here] W fun e w' => e = .returned (.tuple #[.int .i64 0, .int .i64 0, .int .i64 2]) ∧ w' = W := by
  have H := Hd.mk (is_n h)
  clear h
  go_enter Try.func31, Try.ntmps31
  go_wp2_with fail
  refine H.out.mono ?_
  rintro e w1 ⟨rfl, rfl⟩
  go_wp2
  go_ret3
  exact ⟨rfl, rfl⟩
set_option maxRecDepth 100000 in
set_option maxHeartbeats 4000000 in
theorem find_n {W : World} {v : Value} (h : NC W v) (a b c : Int) : Calls Try.prog 32 #[v, .int .i64 a, .int .i64 b, .int .i64 c] W fun e w' => e = .returned (.tuple #[.int .i64 0, .int .i64 2]) ∧ w' = W := by
  have H := Hd.mk (is_n h)
  clear h
  go_enter Try.func32, Try.ntmps32
  go_wp2_with fail
  refine H.out.mono ?_
  rintro e w1 ⟨rfl, rfl⟩
  go_wp2
  go_ret2
  exact ⟨rfl, rfl⟩
set_option maxRecDepth 100000 in
theorem reset_n {W : World} {v : Value} (h : NC W v) : Calls Try.prog 34 #[v] W fun e w' => e = .returned (.tuple #[]) ∧ w' = W := by
  have H := Hd.mk (is_n h)
  clear h
  go_enter Try.func34, Try.ntmps34
  go_wp2_with fail
  refine H.out.mono ?_
  rintro e w1 ⟨rfl, rfl⟩
  go_wp2
  go_end0
  exact ⟨rfl, rfl⟩
theorem zc76 : (Try.zeroCells76)[0]? = some (Value.bool false) := by kernel_rfl
set_option maxRecDepth 100000 in
set_option maxHeartbeats 16000000 in
theorem walk_vcdNone (x0 x1 : Bool) (x2 x3 x4 x5 : Int) (w : World) (_ : True) : Calls Try.prog 10 #[.agg #[.bool x0, .bool x1, .int .i64 x2, .int .i64 x3, .int .i64 x4, .int .i64 x5]] w fun e w' => e = .returned (.bool true) ∧ Below w.heap.size w w' := by
  have hb := (((Below.refl w.heap.size w).alloc (Nat.le_refl _) (.cells #[.bool x0, .bool x1, .int .i64 x2, .int .i64 x3, .int .i64 x4, .int .i64 x5] 73)).alloc (by simp) (.cells Try.zeroCells76 76)).alloc (by simp; omega) (.cells #[.pointer none, .pointer (some ⟨w.heap.size + 1, 0, none⟩)] 58)
  have h0 := blk_alloc (blk_alloc (blk_new w (.cells #[.bool x0, .bool x1, .int .i64 x2, .int .i64 x3, .int .i64 x4, .int .i64 x5] 73)) (.cells Try.zeroCells76 76)) (.cells #[.pointer none, .pointer (some ⟨w.heap.size + 1, 0, none⟩)] 58)
  have h1 := blk_alloc (blk_new (w.alloc (.cells #[.bool x0, .bool x1, .int .i64 x2, .int .i64 x3, .int .i64 x4, .int .i64 x5] 73)) (.cells Try.zeroCells76 76)) (.cells #[.pointer none, .pointer (some ⟨w.heap.size + 1, 0, none⟩)] 58)
  have h2 := blk_new ((w.alloc (.cells #[.bool x0, .bool x1, .int .i64 x2, .int .i64 x3, .int .i64 x4, .int .i64 x5] 73)).alloc (.cells Try.zeroCells76 76)) (.cells #[.pointer none, .pointer (some ⟨w.heap.size + 1, 0, none⟩)] 58)
  rw [World.size_alloc] at h1
  rw [World.size_alloc, World.size_alloc] at h2
  obtain ⟨W3, hW3⟩ : ∃ v, ((w.alloc (.cells #[.bool x0, .bool x1, .int .i64 x2, .int .i64 x3, .int .i64 x4, .int .i64 x5] 73)).alloc (.cells Try.zeroCells76 76)).alloc (.cells #[.pointer none, .pointer (some ⟨w.heap.size + 1, 0, none⟩)] 58) = v := ⟨_, rfl⟩
  rw [hW3] at hb h0 h1 h2
  have hn : NC W3 (.pointer none) := .inl rfl
  have hz : NC W3 (.pointer (some ⟨w.heap.size + 1, 0, none⟩)) := .inr ⟨_, rfl, by rw [blk_cell h1]; exact zc76⟩
  have HW3 := Hd.mk hW3
  have HB := Hd.mk hb
  have HN := Hd.mk hn
  have HZ := Hd.mk hz
  have c2 := blk_cell h0 2
  have c3 := blk_cell h0 3
  have c4 := blk_cell h0 4
  have c5 := blk_cell h0 5
  have s0 := blk_cell h2 0
  have s1 := blk_cell h2 1
  simp at c2 c3 c4 c5 s0 s1
  clear hW3 hb h0 h1 h2 hn hz
  go_enter Try.func10, Try.ntmps10
  go_upto_region 4 with fail
  rw [HW3.out]
  refine wp_loop_rounds 3 ?_
  rw [rounds_succ]
  go_wp2_with fail
  refine (tell_n HN.out _ _).mono ?_
  rintro e w1 ⟨rfl, hw⟩
  rw [hw]
  clear hw w1
  go_wp2_with fail
  refine (find_n HN.out _ _ _).mono ?_
  rintro e w1 ⟨rfl, hw⟩
  rw [hw]
  clear hw w1
  go_wp2_with fail
  refine (reset_n HN.out ).mono ?_
  rintro e w1 ⟨rfl, hw⟩
  rw [hw]
  clear hw w1
  go_wp2_with fail
  refine (tell_n HN.out _ _).mono ?_
  rintro e w1 ⟨rfl, hw⟩
  rw [hw]
  clear hw w1
  go_wp2_with fail
  rw [rounds_succ]
  go_wp2_with fail
  refine (tell_n HZ.out _ _).mono ?_
  rintro e w1 ⟨rfl, hw⟩
  rw [hw]
  clear hw w1
  go_wp2_with fail
  refine (find_n HZ.out _ _ _).mono ?_
  rintro e w1 ⟨rfl, hw⟩
  rw [hw]
  clear hw w1
  go_wp2_with fail
  refine (reset_n HZ.out ).mono ?_
  rintro e w1 ⟨rfl, hw⟩
  rw [hw]
  clear hw w1
  go_wp2_with fail
  refine (tell_n HZ.out _ _).mono ?_
  rintro e w1 ⟨rfl, hw⟩
  rw [hw]
  clear hw w1
  go_wp2_with fail
  rw [rounds_succ]
  go_wp2_with fail
  refine (awake_c _).mono ?_
  rintro e w5 ⟨rfl, hb5⟩
  have HB5 := Hd.mk (below_step HB.out hb5)
  clear hb5
  go_wp2
  go_ret
  exact ⟨rfl, HB5.out⟩
end Go.Proofs.Ytmfnjmecnhagmaa
