/- vcd: Table by contract, the walk. -/
import Derived.Test.YtmfnjmecnhagmaaTb
namespace Go.Proofs.Ytmfnjmecnhagmaa
open Go.RowKit Go.ChangeShapes Go.WideShapes Go.Shelf Go.Proofs.YtmfnjmecnhagmaaW.PrintWords Go.Proofs.YtmfnjmecnhagmaaW.PrintLast Go.Proofs.YtmfnjmecnhagmaaW.PrintMore Go.Proofs.Ytmfnjmecnhagmaa.Pr
set_option linter.unusedVariables false
set_option linter.unusedSimpArgs false
theorem TB.start {w : World} : ∃ W2 W3 : World, (w.alloc (.cells (Array.replicate 1536 z0) 26)).alloc (.cells (Array.replicate 1536 z0) 26) = W2 ∧ W2.setCells (w.heap.size + 1) 0 (#[Value.int .i64 2, .int .i64 0, .int .i64 0] : Array Value).toList = W3 ∧
    W2.there (w.heap.size + 1) 0 3 ∧ W3.heap.size = w.heap.size + 2 ∧ W3.heap[w.heap.size]? = some (.cells (Array.replicate 1536 z0) 26 (0, 0)) ∧
    TB (W3.alloc (.cells #[.int .i64 1] 3)) (w.heap.size + 1) (w.heap.size + 2) (pre1 0) ∧ Below w.heap.size w (W3.alloc (.cells #[.int .i64 1] 3)) := by
  have hA := blk_alloc (blk_new w (.cells (Array.replicate 1536 z0) 26)) (.cells (Array.replicate 1536 z0) 26)
  have hB := blk_new (w.alloc (.cells (Array.replicate 1536 z0) 26)) (.cells (Array.replicate 1536 z0) 26)
  rw [World.size_alloc] at hB
  have hba := ((Below.refl w.heap.size w).alloc (Nat.le_refl _) (.cells (Array.replicate 1536 z0) 26)).alloc (by simp) (.cells (Array.replicate 1536 z0) 26)
  have hs2 : ((w.alloc (.cells (Array.replicate 1536 z0) 26)).alloc (.cells (Array.replicate 1536 z0) 26)).heap.size = w.heap.size + 2 := by rw [World.size_alloc, World.size_alloc]
  obtain ⟨W2, hW2⟩ : ∃ v, (w.alloc (.cells (Array.replicate 1536 z0) 26)).alloc (.cells (Array.replicate 1536 z0) 26) = v := ⟨_, rfl⟩
  rw [hW2] at hA hB hba hs2
  have hcs : (Array.replicate 1536 z0).size = 1536 := Array.size_replicate
  obtain ⟨cur', k1, k2, k3⟩ := setCells_row [Value.int .i64 2, .int .i64 0, .int .i64 0] 0 W2 _ hB (by rw [hcs]; simp)
  obtain ⟨s1, s2, s3, s4⟩ := setCells_same (w.heap.size + 1) [Value.int .i64 2, .int .i64 0, .int .i64 0] 0 W2
  have hfar := fun k hk => setCells_far (g := w.heap.size + 1) [Value.int .i64 2, .int .i64 0, .int .i64 0] 0 (w := W2) k hk
  obtain ⟨W3, hW3⟩ : ∃ v, W2.setCells (w.heap.size + 1) 0 [Value.int .i64 2, .int .i64 0, .int .i64 0] = v := ⟨_, rfl⟩
  rw [hW3] at k1 s1 s2 s3 s4 hfar
  have hs3 : W3.heap.size = w.heap.size + 2 := by rw [s4, hs2]
  have hb3 : Below w.heap.size W2 W3 := ⟨s1, s2, s3, by rw [s4]; exact Nat.le_refl _, fun k hk => hfar k (by omega)⟩
  refine ⟨W2, W3, hW2, hW3, fun j hj => ⟨?_, blk_frozen hB _⟩, hs3, (hfar _ (by omega)).trans hA, ⟨⟨cur', blk_alloc k1 _, ?_⟩, ?_, by omega, by decide⟩, (hba.trans hb3).alloc (by rw [hs3]; omega) _⟩
  · rw [blk_cell hB]
    have : 0 + j < (Array.replicate 1536 z0).size := by rw [hcs]; omega
    rw [Array.getElem?_eq_getElem this]
    rfl
  · rw [k3, Array.toList_replicate]
    rfl
  · have := blk_new W3 (.cells #[.int .i64 1] 3)
    rw [hs3] at this
    exact this
set_option maxRecDepth 100000 in
set_option maxHeartbeats 16000000 in
theorem table_c (w : World) : Calls Try.prog 15 #[] w fun e w' => ∃ c : Array Value, e = .returned (.agg c) ∧ c.toList = tcells tabL ∧ Below w.heap.size w w' := by
  obtain ⟨W2, W3, hW2, hW3, hth, hs3, hg0, hTB, hbb⟩ := TB.start (w := w)
  have HW2 := Hd.mk hW2
  have HW3 := Hd.mk hW3
  have HT0 := Hd.mk hTB
  have HB0 := Hd.mk hbb
  have HG0 := Hd.mk (blk_alloc hg0 (.cells #[.int .i64 1] 3))
  clear hW2 hW3 hTB hbb hg0
  have hone : (#[Value.int .i64 2, .int .i64 0, .int .i64 0] : Array Value).all (·.oneCell') = true := by simp [Value.oneCell']
  have HPUT : Hd (∀ (W : World) (P : List (Hf × Hf)) (k1 s1 m1 k2 s2 m2 : Int) (p : Hf × Hf), p = ((k1, s1, m1), (k2, s2, m2)) → TB W (w.heap.size + 1) (w.heap.size + 2) P → P.length < 256 → W.heap[w.heap.size]? = some (.cells (Array.replicate 1536 z0) 26 (0, 0)) → Below w.heap.size w W →
      Calls Try.prog 41 #[.agg #[.int .i64 k1, .int .i64 s1, .int .i64 m1], .agg #[.int .i64 k2, .int .i64 s2, .int .i64 m2], .pointer (some ⟨w.heap.size + 1, 0, none⟩), .pointer (some ⟨w.heap.size + 2, 0, none⟩)] W fun e w' => e = .returned (.tuple #[]) ∧ TB w' (w.heap.size + 1) (w.heap.size + 2) (P ++ [p]) ∧ w'.heap[w.heap.size]? = some (.cells (Array.replicate 1536 z0) 26 (0, 0)) ∧ Below w.heap.size w w') := ⟨fun W P k1 s1 m1 k2 s2 m2 p hp hT hl hg hb => by
    subst hp
    have hsz := blk_lt hg
    refine (put_c hT hl k1 s1 m1 k2 s2 m2 (n := w.heap.size + 1) (by omega) (by omega) hsz).mono ?_
    rintro e w' ⟨rfl, h1, h2⟩
    exact ⟨rfl, h1, (h2.block _ (by omega)).trans hg, hb.trans (h2.mono (by omega))⟩⟩
  go_enter Try.func15, Try.ntmps15
  go_wp2_with (first | (refine wpList_alloc rfl 26 rfl _ zero26 ?_) | (rw [HW2.out]; refine wpList_store_mid rfl 24 _ _ rfl (w.heap.size + 1) 0 #[.int .i64 2, .int .i64 0, .int .i64 0] rfl rfl hth info24 hone ?_; rw [HW3.out]) | fail)
  clear hth hs3 HW2 HW3 hone
  go_loopg [16] 18 (fun k v16 W => ∃ i : Nat, v16 = .int .i64 i ∧ i + k = 18 ∧ Hd (TB W (w.heap.size + 1) (w.heap.size + 2) (pre1 i)) ∧ Hd (W.heap[w.heap.size]? = some (.cells (Array.replicate 1536 z0) 26 (0, 0))) ∧ Hd (Below w.heap.size w W))
  case atStart => exact ⟨0, rfl, by omega, HT0, HG0, HB0⟩
  case round =>
    clear HT0 HG0 HB0
    obtain ⟨i, rfl, hk, HT, HG, HB⟩ := hrel
    rcases gk with _ | q
    rotate_left
    · have hlt : decide ((i : Int) < 18) = true := decide_eq_true (by omega)
      have hi : i < 18 := by omega
      go_wp2_with fail
      refine (HPUT.out _ _ _ _ _ _ _ _ (rowA i) rfl HT.out (len1 i hi) HG.out HB.out).mono ?_
      rintro e w1 ⟨rfl, hT1, hG1, hB1⟩
      rw [pre1_s] at hT1
      have HT1 := Hd.mk hT1
      have HG1 := Hd.mk hG1
      have HB1 := Hd.mk hB1
      clear hT1 hG1 hB1 HT HG HB
      go_wp2
      go_roundg q
      case measure => omega
      case rel => exact ⟨i + 1, by go_num, by omega, HT1, HG1, HB1⟩
    have hlt : decide ((i : Int) < 18) = false := decide_eq_false (by omega)
    have hi : i = 18 := by omega
    have HT0 : Hd (TB wr (w.heap.size + 1) (w.heap.size + 2) (pre2 0)) := ⟨by rw [pre2_0, ← hi]; exact HT.out⟩
    clear hi HT
    go_wp2
    go_loopg [25] 9 (fun k v25 W => ∃ m : Nat, v25 = .int .i64 m ∧ m + k = 9 ∧ Hd (TB W (w.heap.size + 1) (w.heap.size + 2) (pre2 m)) ∧ Hd (W.heap[w.heap.size]? = some (.cells (Array.replicate 1536 z0) 26 (0, 0))) ∧ Hd (Below w.heap.size w W))
    case atStart => exact ⟨0, rfl, by omega, HT0, HG, HB⟩
    case round =>
      clear HT0 HG HB hlt hk
      obtain ⟨m, rfl, hk, HT, HG, HB⟩ := hrel
      rcases gk with _ | q
      rotate_left
      · have hlt : decide ((m : Int) < 9) = true := decide_eq_true (by omega)
        have hm : m < 9 := by omega
        go_wp2_with fail
        refine (HPUT.out _ _ _ _ _ _ _ _ ((3, 0, (m : Int)), hz) rfl HT.out (len2 m hm) HG.out HB.out).mono ?_
        rintro e w1 ⟨rfl, hT1, hG1, hB1⟩
        have HT1 : Hd (TB w1 (w.heap.size + 1) (w.heap.size + 2) (pre2 m ++ rowC m 0)) := ⟨hT1⟩
        have HG1 := Hd.mk hG1
        have HB1 := Hd.mk hB1
        clear hT1 hG1 hB1 HT HG HB
        go_wp2
        go_loopg [6] 15 (fun k v6 W => ∃ n : Nat, v6 = .int .i64 (4 + (n : Int)) ∧ n + k = 15 ∧ Hd (TB W (w.heap.size + 1) (w.heap.size + 2) (pre2 m ++ rowC m n)) ∧ Hd (W.heap[w.heap.size]? = some (.cells (Array.replicate 1536 z0) 26 (0, 0))) ∧ Hd (Below w.heap.size w W))
        case atStart => exact ⟨0, by go_num, by omega, HT1, HG1, HB1⟩
        case round =>
          clear HT1 HG1 HB1
          obtain ⟨n, rfl, hk2, HT, HG, HB⟩ := hrel
          rcases gk with _ | q2
          rotate_left
          · have hlt2 : decide (4 + (n : Int) ≤ 18) = true := decide_eq_true (by omega)
            have hn : n < 15 := by omega
            go_wp2_with fail
            refine (HPUT.out _ _ _ _ _ _ _ _ (rowB m n) rfl HT.out (len2b m hm n hn) HG.out HB.out).mono ?_
            rintro e w1 ⟨rfl, hT1, hG1, hB1⟩
            rw [List.append_assoc, rowC_s] at hT1
            have HT1 := Hd.mk hT1
            have HG1 := Hd.mk hG1
            have HB1 := Hd.mk hB1
            clear hT1 hG1 hB1 HT HG HB
            go_wp2
            go_roundg q2
            case measure => omega
            case rel => exact ⟨n + 1, by go_num, by omega, HT1, HG1, HB1⟩
          have hlt2 : decide (4 + (n : Int) ≤ 18) = false := decide_eq_false (by omega)
          have hn : n = 15 := by omega
          have HT1 : Hd (TB wr (w.heap.size + 1) (w.heap.size + 2) (pre2 (m + 1))) := ⟨by rw [← pre2_s, ← hn]; exact HT.out⟩
          clear hn HT
          go_wp2
          go_roundg q
          case measure => omega
          case rel => exact ⟨m + 1, by go_num, by omega, HT1, HG, HB⟩
      have hlt : decide ((m : Int) < 9) = false := decide_eq_false (by omega)
      have hm : m = 9 := by omega
      have HT0 : Hd (TB wr (w.heap.size + 1) (w.heap.size + 2) (pre3 0)) := ⟨by rw [pre3_0, ← hm]; exact HT.out⟩
      clear hm HT
      go_wp2
      go_loopg [44] 9 (fun k v44 W => ∃ m : Nat, v44 = .int .i64 m ∧ m + k = 9 ∧ Hd (TB W (w.heap.size + 1) (w.heap.size + 2) (pre3 m)) ∧ Hd (W.heap[w.heap.size]? = some (.cells (Array.replicate 1536 z0) 26 (0, 0))) ∧ Hd (Below w.heap.size w W))
      case atStart => exact ⟨0, rfl, by omega, HT0, HG, HB⟩
      case round =>
        clear HT0 HG HB hlt hk
        obtain ⟨m, rfl, hk, HT, HG, HB⟩ := hrel
        rcases gk with _ | q
        rotate_left
        · have hlt : decide ((m : Int) < 9) = true := decide_eq_true (by omega)
          have hm : m < 9 := by omega
          have hcs : (decide ((m : Int) < 6) = true ∧ mostD m = 3 ∧ (m : Int) < 6) ∨ (decide ((m : Int) < 6) = false ∧ mostD m = 1 ∧ 6 ≤ (m : Int)) := by
            by_cases h6 : m < 6
            · exact .inl ⟨decide_eq_true (by omega), if_pos h6, by omega⟩
            · exact .inr ⟨decide_eq_false (by omega), if_neg h6, by omega⟩
          rcases hcs with ⟨hd6, hmo, hdn⟩ | ⟨hd6, hmo, hdn⟩
          · have HMO := Hd.mk hmo
            clear hmo
            go_wp2
            go_loopg [49] 4 (fun k v49 W => ∃ n : Nat, v49 = .int .i64 n ∧ n + k = 4 ∧ Hd (TB W (w.heap.size + 1) (w.heap.size + 2) (pre3 m ++ rowE m n)) ∧ Hd (W.heap[w.heap.size]? = some (.cells (Array.replicate 1536 z0) 26 (0, 0))) ∧ Hd (Below w.heap.size w W))
            case atStart => exact ⟨0, rfl, by omega, ⟨by simpa [rowE] using HT.out⟩, HG, HB⟩
            case round =>
              clear HT HG HB
              obtain ⟨n, rfl, hk2, HT, HG, HB⟩ := hrel
              rcases gk with _ | q2
              rotate_left
              · have hlt2 : decide ((n : Int) < 4) = true := decide_eq_true (by omega)
                have hn : n < 4 := by omega
                go_wp2
                go_loopg [10] 3 (fun k v10 W => ∃ c : Nat, v10 = .int .i64 (4 + (c : Int)) ∧ c + k = 3 ∧ Hd (TB W (w.heap.size + 1) (w.heap.size + 2) (pre3 m ++ rowE m n ++ rowD m n c)) ∧ Hd (W.heap[w.heap.size]? = some (.cells (Array.replicate 1536 z0) 26 (0, 0))) ∧ Hd (Below w.heap.size w W))
                case atStart => exact ⟨0, by go_num, by omega, ⟨by simpa [rowD] using HT.out⟩, HG, HB⟩
                case round =>
                  clear HT HG HB
                  obtain ⟨c, rfl, hk3, HT, HG, HB⟩ := hrel
                  rcases gk with _ | q3
                  rotate_left
                  · have hlt3 : decide (4 + (c : Int) ≤ 6) = true := decide_eq_true (by omega)
                    have hlen : (pre3 m ++ rowE m n ++ rowD m n c).length < 256 := by
                      rcases len3 m hm n hn c (by omega) with h | h
                      · exact h
                      · have := HMO.out; omega
                    have HLEN := Hd.mk hlen
                    clear hlen
                    go_wp2_with fail
                    refine (HPUT.out _ _ _ _ _ _ _ _ (cellD m n c) rfl HT.out HLEN.out HG.out HB.out).mono ?_
                    rintro e w1 ⟨rfl, hT1, hG1, hB1⟩
                    rw [List.append_assoc, rowD_s] at hT1
                    have HT1 := Hd.mk hT1
                    have HG1 := Hd.mk hG1
                    have HB1 := Hd.mk hB1
                    clear hT1 hG1 hB1 HT HG HB HLEN
                    go_wp2
                    go_roundg q3
                    case measure => omega
                    case rel => exact ⟨c + 1, by go_num, by omega, HT1, HG1, HB1⟩
                  have hlt3 : decide (4 + (c : Int) ≤ 6) = false := decide_eq_false (by omega)
                  have HT1 : Hd (TB wr (w.heap.size + 1) (w.heap.size + 2) (pre3 m ++ rowE m (n + 1))) := ⟨by have hT := HT.out; rw [show c = 3 by omega] at hT; rw [← rowE_s, HMO.out, ← List.append_assoc]; exact hT⟩
                  clear HT
                  go_wp2
                  go_roundg q2
                  case measure => omega
                  case rel => exact ⟨n + 1, by go_num, by omega, HT1, HG, HB⟩
              have hlt2 : decide ((n : Int) < 4) = false := decide_eq_false (by omega)
              have HT1 : Hd (TB wr (w.heap.size + 1) (w.heap.size + 2) (pre3 (m + 1))) := ⟨by rw [← pre3_s, ← show n = 4 by omega]; exact HT.out⟩
              clear HT
              go_wp2
              go_roundg q
              case measure => omega
              case rel => exact ⟨m + 1, by go_num, by omega, HT1, HG, HB⟩
          · have HMO := Hd.mk hmo
            clear hmo
            go_wp2
            go_loopg [49] 4 (fun k v49 W => ∃ n : Nat, v49 = .int .i64 n ∧ n + k = 4 ∧ Hd (TB W (w.heap.size + 1) (w.heap.size + 2) (pre3 m ++ rowE m n)) ∧ Hd (W.heap[w.heap.size]? = some (.cells (Array.replicate 1536 z0) 26 (0, 0))) ∧ Hd (Below w.heap.size w W))
            case atStart => exact ⟨0, rfl, by omega, ⟨by simpa [rowE] using HT.out⟩, HG, HB⟩
            case round =>
              clear HT HG HB
              obtain ⟨n, rfl, hk2, HT, HG, HB⟩ := hrel
              rcases gk with _ | q2
              rotate_left
              · have hlt2 : decide ((n : Int) < 4) = true := decide_eq_true (by omega)
                have hn : n < 4 := by omega
                go_wp2
                go_loopg [10] 1 (fun k v10 W => ∃ c : Nat, v10 = .int .i64 (4 + (c : Int)) ∧ c + k = 1 ∧ Hd (TB W (w.heap.size + 1) (w.heap.size + 2) (pre3 m ++ rowE m n ++ rowD m n c)) ∧ Hd (W.heap[w.heap.size]? = some (.cells (Array.replicate 1536 z0) 26 (0, 0))) ∧ Hd (Below w.heap.size w W))
                case atStart => exact ⟨0, by go_num, by omega, ⟨by simpa [rowD] using HT.out⟩, HG, HB⟩
                case round =>
                  clear HT HG HB
                  obtain ⟨c, rfl, hk3, HT, HG, HB⟩ := hrel
                  rcases gk with _ | q3
                  rotate_left
                  · have hlt3 : decide (4 + (c : Int) ≤ 4) = true := decide_eq_true (by omega)
                    have hlen : (pre3 m ++ rowE m n ++ rowD m n c).length < 256 := by
                      rcases len3 m hm n hn c (by omega) with h | h
                      · exact h
                      · have := HMO.out; omega
                    have HLEN := Hd.mk hlen
                    clear hlen
                    go_wp2_with fail
                    refine (HPUT.out _ _ _ _ _ _ _ _ (cellD m n c) rfl HT.out HLEN.out HG.out HB.out).mono ?_
                    rintro e w1 ⟨rfl, hT1, hG1, hB1⟩
                    rw [List.append_assoc, rowD_s] at hT1
                    have HT1 := Hd.mk hT1
                    have HG1 := Hd.mk hG1
                    have HB1 := Hd.mk hB1
                    clear hT1 hG1 hB1 HT HG HB HLEN
                    go_wp2
                    go_roundg q3
                    case measure => omega
                    case rel => exact ⟨c + 1, by go_num, by omega, HT1, HG1, HB1⟩
                  have hlt3 : decide (4 + (c : Int) ≤ 4) = false := decide_eq_false (by omega)
                  have HT1 : Hd (TB wr (w.heap.size + 1) (w.heap.size + 2) (pre3 m ++ rowE m (n + 1))) := ⟨by have hT := HT.out; rw [show c = 1 by omega] at hT; rw [← rowE_s, HMO.out, ← List.append_assoc]; exact hT⟩
                  clear HT
                  go_wp2
                  go_roundg q2
                  case measure => omega
                  case rel => exact ⟨n + 1, by go_num, by omega, HT1, HG, HB⟩
              have hlt2 : decide ((n : Int) < 4) = false := decide_eq_false (by omega)
              have HT1 : Hd (TB wr (w.heap.size + 1) (w.heap.size + 2) (pre3 (m + 1))) := ⟨by rw [← pre3_s, ← show n = 4 by omega]; exact HT.out⟩
              clear HT
              go_wp2
              go_roundg q
              case measure => omega
              case rel => exact ⟨m + 1, by go_num, by omega, HT1, HG, HB⟩
        have hlt : decide ((m : Int) < 9) = false := decide_eq_false (by omega)
        have HT0 : Hd (TB wr (w.heap.size + 1) (w.heap.size + 2) (pre4 0)) := ⟨by rw [pre4_0, ← show m = 9 by omega]; exact HT.out⟩
        clear HT
        go_wp2
        go_loopg [67] 9 (fun k v67 W => ∃ m : Nat, v67 = .int .i64 m ∧ m + k = 9 ∧ Hd (TB W (w.heap.size + 1) (w.heap.size + 2) (pre4 m)) ∧ Hd (W.heap[w.heap.size]? = some (.cells (Array.replicate 1536 z0) 26 (0, 0))) ∧ Hd (Below w.heap.size w W))
        case atStart => exact ⟨0, rfl, by omega, HT0, HG, HB⟩
        case round =>
          clear HT0 HG HB hlt hk
          obtain ⟨m, rfl, hk, HT, HG, HB⟩ := hrel
          rcases gk with _ | q
          rotate_left
          · have hlt : decide ((m : Int) < 9) = true := decide_eq_true (by omega)
            have hm : m < 9 := by omega
            go_wp2_with fail
            refine (HPUT.out _ _ _ _ _ _ _ _ (cellF m) rfl HT.out (len4 m hm) HG.out HB.out).mono ?_
            rintro e w1 ⟨rfl, hT1, hG1, hB1⟩
            rw [pre4_s] at hT1
            have HT1 := Hd.mk hT1
            have HG1 := Hd.mk hG1
            have HB1 := Hd.mk hB1
            clear hT1 hG1 hB1 HT HG HB
            go_wp2
            go_roundg q
            case measure => omega
            case rel => exact ⟨m + 1, by go_num, by omega, HT1, HG1, HB1⟩
          have hlt : decide ((m : Int) < 9) = false := decide_eq_false (by omega)
          have hT9 : TB wr (w.heap.size + 1) (w.heap.size + 2) tabL := by
            have := HT.out
            rw [show m = 9 by omega] at this
            exact this
          obtain ⟨cur, hcur, hcl⟩ := hT9.c
          rw [tabL_len, show 1536 - 256 * 6 = 0 from rfl, List.replicate_zero, List.append_nil] at hcl
          have hcsz : cur.size = 1536 := by rw [← Array.length_toList, hcl, tcells_len, tabL_len]
          have hisz : (Try.prog.info? 26).map (·.size) = some cur.size := by rw [hcsz]; exact info26
          have hcone : cur.all (·.oneCell') = true := Array.all_eq_true_iff_forall_mem.2 (fun v hv => tcells_one tabL v (by rw [← hcl]; exact Array.mem_toList_iff.2 hv))
          have hold : (Array.replicate 1536 z0).size = cur.size := by rw [hcsz]; exact Array.size_replicate
          have HCUR := Hd.mk (And.intro hcur (And.intro hisz (And.intro hcone (And.intro hold hcl))))
          clear hT9 hcur hisz hcone hold hcl hcsz HT
          go_wp2_with (first | (refine wpList_load_row rfl 26 _ rfl (w.heap.size + 1) rfl 26 cur (0, 0) _ HCUR.out.1 Try.underlying26 rfl HCUR.out.2.1 ?_) | (refine wpList_store_row rfl 26 _ _ rfl w.heap.size cur rfl rfl 26 _ HG.out HCUR.out.2.1 HCUR.out.2.2.2.1 HCUR.out.2.2.1 ?_) | fail)
          have hz := setRow_heap wr w.heap.size _ cur 26 (0, 0) HG.out
          refine bodyPost_ret (results_cell_row rfl _ _ w.heap.size 26 cur (0, 0) _ rfl hz Try.underlying26 rfl HCUR.out.2.1) rfl ?_
          exact ⟨cur, rfl, HCUR.out.2.2.2.2, below_setRow cur HB.out (Nat.le_refl _)⟩
end Go.Proofs.Ytmfnjmecnhagmaa
