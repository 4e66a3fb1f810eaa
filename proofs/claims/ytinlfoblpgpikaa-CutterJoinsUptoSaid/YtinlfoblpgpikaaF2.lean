import Derived.Test.YtinlfoblpgpikaaE0
namespace Go.Proofs.Ytinlfoblpgpikaa.Pr
open Go.RowKit Go.Proofs.YtinlfoblpgpikaaW.PrintWords Go.Proofs.YtinlfoblpgpikaaW.PrintLast Go.Proofs.YtinlfoblpgpikaaW.PrintMore
attribute [local go_sem] max2_int min2_int max_two min_two max_three min_three max_four min_four   -- for this text's walks alone
set_option linter.unusedVariables false
set_option linter.unusedSimpArgs false

/-! ### sapperref17_in: function 43 -/
def sapperref17_in.f (a0 : Int) (a1 : Int) (a2 : Int) : Option (Bool) := if a0 ≥ a1 then (some (decide (a0 ≤ a2))) else (some false)
set_option maxHeartbeats 8000000 in
set_option maxRecDepth 100000 in
theorem sapperref17_in.calls (a0 : Int) (a1 : Int) (a2 : Int) (r : Bool) (w : World) (h : sapperref17_in.f a0 a1 a2 = some r) :
    Calls Try.prog 43 #[.int .i64 a0, .int .i64 a1, .int .i64 a2] w fun e w' => e = .returned (.bool r) ∧ Drawn0 w w' := by
  have H : (if a0 ≥ a1 then (some (decide (a0 ≤ a2))) else (some false)) = some r := h
  clear h
  by_cases c4 : a0 ≥ a1
  · rw [if_pos c4] at H
    have c4b0 : decide (a1 ≤ a0) = true := decide_eq_true c4
    clear c4
    obtain rfl := Option.some.inj H
    go_enter Try.func43, Try.ntmps43
    go_wp2
    go_ret
    exact ⟨by first | rfl | (simp; done) | (simp [*]; done), by repeat (first | exact Drawn0.refl _ | apply Drawn0.step)⟩
  · rw [if_neg c4] at H
    have c4b0 : decide (a1 ≤ a0) = false := decide_eq_false c4
    clear c4
    obtain rfl := Option.some.inj H
    go_enter Try.func43, Try.ntmps43
    go_wp2
    go_ret
    exact ⟨by first | rfl | (simp; done) | (simp [*]; done), by repeat (first | exact Drawn0.refl _ | apply Drawn0.step)⟩

/-! ### sapperref17_Sums: function 48 -/
mutual
def sapperref17_Sums.l0 : Nat → Int → Int → List (S81) → Int → Int → Option (Int × Int × Bool)
  | 0, _, _, _, _, _ => none
  | k + 1, x5, x6, x9, x10, x11 => if x11 < x10 then (if 0 ≤ x11 then (if x11 < (x9.length : Int) then ((sapperref17_in.f ((rd_T81 x9 x11).f0) 0 16777216).bind fun t177 => (if t177 = true then ((sapperref17_in.f ((rd_T81 x9 x11).f1) 0 16777216).bind fun t178 => (sapperref17_Sums.j1 k x5 x6 x9 x10 x11 (!t178) ((rd_T81 x9 x11).f0) ((rd_T81 x9 x11).f1) ((rd_T81 x9 x11).f2))) else (sapperref17_Sums.j1 k x5 x6 x9 x10 x11 true ((rd_T81 x9 x11).f0) ((rd_T81 x9 x11).f1) ((rd_T81 x9 x11).f2)))) else (none)) else (none)) else (some (x5, x6, true))
def sapperref17_Sums.j1 : Nat → Int → Int → List (S81) → Int → Int → Bool → Int → Int → Int → Option (Int × Int × Bool)
  | 0, _, _, _, _, _, _, _, _, _ => none
  | k + 1, x5, x6, x9, x10, x11, x24, x177000, x177001, x177002 => if x24 = true then (some (0, 0, false)) else (if (wrap64 (x5 + x177000)) > 16777216 then (some (0, 0, false)) else (if (wrap64 (x6 + x177001)) > 16777216 then (some (0, 0, false)) else (sapperref17_Sums.l0 k (wrap64 (x5 + x177000)) (wrap64 (x6 + x177001)) x9 x10 (wrap64 (x11 + 1)))))
end
def sapperref17_Sums.f (k : Nat) (l0 : List (S81)) : Option (Int × Int × Bool) := sapperref17_Sums.l0 k 0 0 l0 (l0.length : Int) 0
theorem sapperref17_Sums.mono_l : ∀ k, (∀ y0 y1 y2 y3 y4, LeO (sapperref17_Sums.l0 k y0 y1 y2 y3 y4) (sapperref17_Sums.l0 (k + 1) y0 y1 y2 y3 y4)) ∧ (∀ y0 y1 y2 y3 y4 y5 y6 y7 y8, LeO (sapperref17_Sums.j1 k y0 y1 y2 y3 y4 y5 y6 y7 y8) (sapperref17_Sums.j1 (k + 1) y0 y1 y2 y3 y4 y5 y6 y7 y8))
  | 0 => ⟨fun _ _ _ _ _ r h => by simp [sapperref17_Sums.l0] at h, fun _ _ _ _ _ _ _ _ _ r h => by simp [sapperref17_Sums.j1] at h⟩
  | k + 1 => by
    obtain ⟨ih0, ih1⟩ := sapperref17_Sums.mono_l k
    refine ⟨?_, ?_⟩
    · intro y0 y1 y2 y3 y4
      unfold sapperref17_Sums.l0
      repeat' first
      | (with_reducible exact ih0 _ _ _ _ _)
      | (with_reducible exact ih1 _ _ _ _ _ _ _ _ _)
      | (with_reducible exact LeO.refl _)
      | (with_reducible exact LeO.none _)
      | (with_reducible refine LeO.ite ?_ ?_)
      | (with_reducible refine LeO.bind ?_ (fun _ => ?_))
      | exact ih0 _ _ _ _ _
      | exact ih1 _ _ _ _ _ _ _ _ _
      | exact LeO.none _
      | refine LeO.ite ?_ ?_
      | refine LeO.bind ?_ (fun _ => ?_)
    · intro y0 y1 y2 y3 y4 y5 y6 y7 y8
      unfold sapperref17_Sums.j1
      repeat' first
      | (with_reducible exact ih0 _ _ _ _ _)
      | (with_reducible exact ih1 _ _ _ _ _ _ _ _ _)
      | (with_reducible exact LeO.refl _)
      | (with_reducible exact LeO.none _)
      | (with_reducible refine LeO.ite ?_ ?_)
      | (with_reducible refine LeO.bind ?_ (fun _ => ?_))
      | exact ih0 _ _ _ _ _
      | exact ih1 _ _ _ _ _ _ _ _ _
      | exact LeO.none _
      | refine LeO.ite ?_ ?_
      | refine LeO.bind ?_ (fun _ => ?_)
theorem sapperref17_Sums.mono : ∀ a0 k, LeO (sapperref17_Sums.f k a0) (sapperref17_Sums.f (k + 1) a0) := by
  intro a0 k
  obtain ⟨ih0, ih1⟩ := sapperref17_Sums.mono_l k
  unfold sapperref17_Sums.f
  repeat' first
      | (with_reducible exact ih0 _ _ _ _ _)
      | (with_reducible exact ih1 _ _ _ _ _ _ _ _ _)
      | (with_reducible exact LeO.refl _)
      | (with_reducible exact LeO.none _)
      | (with_reducible refine LeO.ite ?_ ?_)
      | (with_reducible refine LeO.bind ?_ (fun _ => ?_))
      | exact ih0 _ _ _ _ _
      | exact ih1 _ _ _ _ _ _ _ _ _
      | exact LeO.none _
      | refine LeO.ite ?_ ?_
      | refine LeO.bind ?_ (fun _ => ?_)
set_option maxHeartbeats 8000000 in
set_option maxRecDepth 100000 in
theorem sapperref17_Sums.calls (k : Nat) (A0 : Option Addr) (c0 : Nat) (l0 : List (S81)) (r1 : Int) (r2 : Int) (r3 : Bool) (w : World) (hr0 : Kd.C k81 w A0 l0.length l0) (hc0 : l0.length ≤ c0) (h : sapperref17_Sums.f k l0 = some (r1, r2, r3)) :
    Calls Try.prog 48 #[.slice A0 l0.length c0] w fun e w' => e = .returned (.tuple #[.int .i64 r1, .int .i64 r2, .bool r3]) ∧ Below w.heap.size w w' := by
  have hu81 := Try.underlying81
  have HR0 := Aside0.mk hr0
  have HC0 := Aside0.mk hc0
  clear hr0 hc0
  have HB := Aside0.mk (Below.refl w.heap.size w)
  have H : (sapperref17_Sums.l0 k 0 0 l0 (l0.length : Int) 0) = some (r1, r2, r3) := h
  clear h
  have H' := Aside0.mk H
  clear H
  go_enter Try.func48, Try.ntmps48
  go_wp2
  go_loopg [5, 6, 11] k (fun kq v5 v6 v11 w' => ∃ (x5_1 : Int) (x6_1 : Int) (x11_1 : Int), v5 = .int .i64 x5_1 ∧ v6 = .int .i64 x6_1 ∧ v11 = .int .i64 x11_1 ∧ Aside0 (sapperref17_Sums.l0 kq x5_1 x6_1 l0 (l0.length : Int) x11_1 = some (r1, r2, r3)) ∧ Aside0 (kq ≤ k) ∧ Aside0 (Below w.heap.size w w'))
  case atStart => exact ⟨(0), (0), (0), (by first | rfl | (simp; done) | (simp [*]; done)), (by first | rfl | (simp; done) | (simp [*]; done)), (by first | rfl | (simp; done) | (simp [*]; done)), H', ⟨Nat.le_refl _⟩, ⟨by repeat (first | (with_reducible first | exact HB.out | apply below_alloc | apply pw_below_drewN | apply below_drew1) | exact HB.out)⟩⟩
  case round =>
    clear H'
    obtain ⟨x5_1, x6_1, x11_1, rfl, rfl, rfl, HA, HK1, HB⟩ := hrel
    cases gk with
    | zero => exact absurd HA.out (by simp [sapperref17_Sums.l0])
    | succ k1 =>
      have H := HA.out
      clear HA
      simp only [sapperref17_Sums.l0] at H
      by_cases c2 : x11_1 < (l0.length : Int)
      · rw [if_pos c2] at H
        have c2b0 : decide (x11_1 < (l0.length : Int)) = true := decide_eq_true c2
        clear c2
        by_cases c3 : 0 ≤ x11_1
        · rw [if_pos c3] at H
          have c3b0 : decide (0 ≤ x11_1) = true := decide_eq_true c3
          clear c3
          by_cases c4 : x11_1 < (l0.length : Int)
          · rw [if_pos c4] at H
            have c4b0 : decide (x11_1 < (l0.length : Int)) = true := decide_eq_true c4
            clear c4
            have HC5 := Aside0.mk H
            clear H
            have p175 : 0 ≤ (x11_1 : Int) := of_decide_eq_true (by first | (with_reducible assumption) | assumption)
            have q175 : x11_1 < (l0.length : Int) := of_decide_eq_true (by first | (with_reducible assumption) | assumption)
            obtain ⟨ad175, e175, hx175_0, hx175_1, hx175_2⟩ := at_T81 HR0.out x11_1 p175 q175
            cases e175
            replace hx175_0 := (HB.out.cell (World.block_lt_of_cell? w _ hx175_0)).trans hx175_0
            replace hx175_1 := (HB.out.cell (World.block_lt_of_cell? w _ hx175_1)).trans hx175_1
            replace hx175_2 := (HB.out.cell (World.block_lt_of_cell? w _ hx175_2)).trans hx175_2
            replace p175 := eq_true p175
            replace q175 := eq_true q175
            go_upto_region 5 with (first | ((with_reducible refine gate_dst (N := 8) rfl ?_); refine box_event ?hg (N := 8) ?hd (cs := #[.int .i64 0, .int .i64 0, .int .i64 0]) (t := 81) ?hr ?_; (case hd => rfl); (case hg => rfl); (case hr => first | (go_simp; done) | (go_simp; rfl)); intro gb176 hg w6 hbox hb; have n0_ := Aside0.mk (below_step (by repeat (first | (with_reducible first | exact HB.out | apply below_alloc | apply pw_below_drewN | apply below_drew1) | exact HB.out)) hb); have n1_ := Aside0.mk (hbox); have n2_ := Aside0.mk ((by rw [hg]; exact (below_size (by repeat (first | (with_reducible first | exact HB.out | apply below_alloc | apply pw_below_drewN | apply below_drew1) | exact HB.out))) : w.heap.size ≤ gb176)); have n3_ := Aside0.mk ((by rw [hg]; exact (below_size (by repeat (first | (with_reducible first | exact HB.out | apply below_alloc | apply pw_below_drewN | apply below_drew1) | exact HB.out))) : w.heap.size ≤ gb176)); clear HB; have HB := n0_; have BK176 := n1_; have GW176 := n2_; have GE176 := n3_; clear n0_ n1_ n2_ n3_; clear hb hbox hg; have hcz7_0 : w6.cell? ⟨gb176, 0, none⟩ = some (.int .i64 0) := (blk_cell BK176.out 0).trans rfl; have hcz7_1 : w6.cell? ⟨gb176, 1, none⟩ = some (.int .i64 0) := (blk_cell BK176.out 1).trans rfl; have hcz7_2 : w6.cell? ⟨gb176, 2, none⟩ = some (.int .i64 0) := (blk_cell BK176.out 2).trans rfl; have hfz7_0 := blk_frozen BK176.out 0; have hfz7_1 := blk_frozen BK176.out 1; have hfz7_2 := blk_frozen BK176.out 2))
            (try simp only [Act.put, List.setIfInBounds_toArray, List.set_cons_zero, List.set_cons_succ])
            go_cut [24] (fun v24 wc => ∃ (kq : Nat) (x24_4 : Bool), v24 = .bool x24_4 ∧ Aside0 (sapperref17_Sums.j1 kq x5_1 x6_1 l0 (l0.length : Int) x11_1 x24_4 ((rd_T81 l0 x11_1).f0) ((rd_T81 l0 x11_1).f1) ((rd_T81 l0 x11_1).f2) = some (r1, r2, r3)) ∧ Aside0 (kq ≤ k1) ∧ Aside0 (wc.heap[gb176]? = some (.cells #[.int .i64 ((rd_T81 l0 x11_1).f0), .int .i64 ((rd_T81 l0 x11_1).f1), .int .i64 ((rd_T81 l0 x11_1).f2)] 81 (0, 0))) ∧ Aside0 (Below w.heap.size w wc))
            case first =>
              have H := HC5.out
              clear HC5
              replace H := Option.bind_eq_some_iff.mp H
              obtain ⟨t177, A80, H⟩ := H
              replace H : (if t177 = true then ((sapperref17_in.f ((rd_T81 l0 x11_1).f1) 0 16777216).bind fun t178 => (sapperref17_Sums.j1 k1 x5_1 x6_1 l0 (l0.length : Int) x11_1 (!t178) ((rd_T81 l0 x11_1).f0) ((rd_T81 l0 x11_1).f1) ((rd_T81 l0 x11_1).f2))) else (sapperref17_Sums.j1 k1 x5_1 x6_1 l0 (l0.length : Int) x11_1 true ((rd_T81 l0 x11_1).f0) ((rd_T81 l0 x11_1).f1) ((rd_T81 l0 x11_1).f2))) = some (r1, r2, r3) := H
              have A8 := Aside0.mk A80
              clear A80
              by_cases c9 : t177 = true
              · subst c9
                have H1 : ((sapperref17_in.f ((rd_T81 l0 x11_1).f1) 0 16777216).bind fun t178 => (sapperref17_Sums.j1 k1 x5_1 x6_1 l0 (l0.length : Int) x11_1 (!t178) ((rd_T81 l0 x11_1).f0) ((rd_T81 l0 x11_1).f1) ((rd_T81 l0 x11_1).f2))) = some (r1, r2, r3) := by rw [if_pos rfl] at H; exact H
                clear H
                have H := H1
                clear H1
                replace H := Option.bind_eq_some_iff.mp H
                obtain ⟨t178, A100, H⟩ := H
                replace H : (sapperref17_Sums.j1 k1 x5_1 x6_1 l0 (l0.length : Int) x11_1 (!t178) ((rd_T81 l0 x11_1).f0) ((rd_T81 l0 x11_1).f1) ((rd_T81 l0 x11_1).f2)) = some (r1, r2, r3) := H
                have A10 := Aside0.mk A100
                clear A100
                have H' := Aside0.mk H
                clear H
                have hcz11_0 : w6.cell? ⟨gb176, 0, none⟩ = some (.int .i64 0) := (blk_cell BK176.out 0).trans rfl
                have hcz11_1 : w6.cell? ⟨gb176, 1, none⟩ = some (.int .i64 0) := (blk_cell BK176.out 1).trans rfl
                have hcz11_2 : w6.cell? ⟨gb176, 2, none⟩ = some (.int .i64 0) := (blk_cell BK176.out 2).trans rfl
                have hfz11_0 := blk_frozen BK176.out 0
                have hfz11_1 := blk_frozen BK176.out 1
                have hfz11_2 := blk_frozen BK176.out 2
                go_wp2_with (first | ((with_reducible refine gate_callee (f := 43) rfl ?_); refine goesL_ (some 17) rfl rfl Try.func43 (by kernel_rfl) rfl #[.int .i64 ((rd_T81 l0 x11_1).f0), .int .i64 0, .int .i64 16777216] rfl (by (try simp only [List.map_toArray, List.map_cons, List.map_nil]); first | done | rfl | (simp only [List.length_drop, List.length_take]; rfl)) ?_; (with_reducible refine (sapperref17_in.calls ((rd_T81 l0 x11_1).f0) 0 16777216 true _ A8.out).mono ?_); rintro e w' ⟨rfl, ⟨nd, rfl⟩⟩; refine ⟨_, rfl, ?_⟩) | (go_at_call 43; (with_reducible refine (sapperref17_in.calls ((rd_T81 l0 x11_1).f1) 0 16777216 t178 _ A10.out).mono ?_); rintro e w' ⟨rfl, ⟨nd, rfl⟩⟩))
                go_meet
                case rel => exact ⟨_, (!t178), (by first | rfl | (simp; done) | (simp [*]; done)), H', ⟨by have := HK1.out; first | omega | exact Nat.le_refl _⟩, ⟨by (with_reducible repeat (first | refine blk_drewN ?_ _ | refine blk_drew ?_ | refine blk_alloc ?_ _)); refine blk_put (cs := #[.int .i64 ((rd_T81 l0 x11_1).f0), .int .i64 ((rd_T81 l0 x11_1).f1), .int .i64 0]) ?_ 2 _ rfl; (with_reducible repeat (first | refine blk_drewN ?_ _ | refine blk_drew ?_ | refine blk_alloc ?_ _)); refine blk_put (cs := #[.int .i64 ((rd_T81 l0 x11_1).f0), .int .i64 0, .int .i64 0]) ?_ 1 _ rfl; (with_reducible repeat (first | refine blk_drewN ?_ _ | refine blk_drew ?_ | refine blk_alloc ?_ _)); refine blk_put (cs := #[.int .i64 0, .int .i64 0, .int .i64 0]) ?_ 0 _ rfl; (with_reducible repeat (first | refine blk_drewN ?_ _ | refine blk_drew ?_ | refine blk_alloc ?_ _)); exact BK176.out⟩, ⟨by repeat (first | (with_reducible first | exact HB.out | apply below_alloc | apply pw_below_drewN | apply below_drew1 | refine below_set ?_ GE176.out) | exact HB.out)⟩⟩
              · replace c9 := Bool.eq_false_iff.mpr c9
                subst c9
                have H1 : (sapperref17_Sums.j1 k1 x5_1 x6_1 l0 (l0.length : Int) x11_1 true ((rd_T81 l0 x11_1).f0) ((rd_T81 l0 x11_1).f1) ((rd_T81 l0 x11_1).f2)) = some (r1, r2, r3) := by rw [if_neg (show ¬ (false = true) by decide)] at H; exact H
                clear H
                have H := H1
                clear H1
                have H' := Aside0.mk H
                clear H
                have hcz12_0 : w6.cell? ⟨gb176, 0, none⟩ = some (.int .i64 0) := (blk_cell BK176.out 0).trans rfl
                have hcz12_1 : w6.cell? ⟨gb176, 1, none⟩ = some (.int .i64 0) := (blk_cell BK176.out 1).trans rfl
                have hcz12_2 : w6.cell? ⟨gb176, 2, none⟩ = some (.int .i64 0) := (blk_cell BK176.out 2).trans rfl
                have hfz12_0 := blk_frozen BK176.out 0
                have hfz12_1 := blk_frozen BK176.out 1
                have hfz12_2 := blk_frozen BK176.out 2
                go_wp2_with (first | ((with_reducible refine gate_callee (f := 43) rfl ?_); refine goesL_ (some 17) rfl rfl Try.func43 (by kernel_rfl) rfl #[.int .i64 ((rd_T81 l0 x11_1).f0), .int .i64 0, .int .i64 16777216] rfl (by (try simp only [List.map_toArray, List.map_cons, List.map_nil]); first | done | rfl | (simp only [List.length_drop, List.length_take]; rfl)) ?_; (with_reducible refine (sapperref17_in.calls ((rd_T81 l0 x11_1).f0) 0 16777216 false _ A8.out).mono ?_); rintro e w' ⟨rfl, ⟨nd, rfl⟩⟩; refine ⟨_, rfl, ?_⟩))
                go_meet
                case rel => exact ⟨_, (true), (by first | rfl | (simp; done) | (simp [*]; done)), H', ⟨by have := HK1.out; first | omega | exact Nat.le_refl _⟩, ⟨by (with_reducible repeat (first | refine blk_drewN ?_ _ | refine blk_drew ?_ | refine blk_alloc ?_ _)); refine blk_put (cs := #[.int .i64 ((rd_T81 l0 x11_1).f0), .int .i64 ((rd_T81 l0 x11_1).f1), .int .i64 0]) ?_ 2 _ rfl; (with_reducible repeat (first | refine blk_drewN ?_ _ | refine blk_drew ?_ | refine blk_alloc ?_ _)); refine blk_put (cs := #[.int .i64 ((rd_T81 l0 x11_1).f0), .int .i64 0, .int .i64 0]) ?_ 1 _ rfl; (with_reducible repeat (first | refine blk_drewN ?_ _ | refine blk_drew ?_ | refine blk_alloc ?_ _)); refine blk_put (cs := #[.int .i64 0, .int .i64 0, .int .i64 0]) ?_ 0 _ rfl; (with_reducible repeat (first | refine blk_drewN ?_ _ | refine blk_drew ?_ | refine blk_alloc ?_ _)); exact BK176.out⟩, ⟨by repeat (first | (with_reducible first | exact HB.out | apply below_alloc | apply pw_below_drewN | apply below_drew1 | refine below_set ?_ GE176.out) | exact HB.out)⟩⟩
            case rest =>
              clear HC5
              try clear p1
              try clear q1
              try clear hx1
              try clear c2
              try clear c2b0
              try clear p2
              try clear c3
              try clear c3b0
              try clear c4
              try clear c4b0
              try clear c9
              try clear hcz11_0
              try clear hcz11_1
              try clear hcz11_2
              try clear hcz12_0
              try clear hcz12_1
              try clear hcz12_2
              try clear hcz7_0
              try clear hcz7_1
              try clear hcz7_2
              try clear hfz11_0
              try clear hfz11_1
              try clear hfz11_2
              try clear hfz12_0
              try clear hfz12_1
              try clear hfz12_2
              try clear hfz7_0
              try clear hfz7_1
              try clear hfz7_2
              try clear hx175_0
              try clear hx175_1
              try clear hx175_2
              try clear p175
              try clear q175
              obtain ⟨kq, x24_4, rfl, HA, HJ4, BK176, HB⟩ := hcut
              cases kq with
              | zero => exact absurd HA.out (by simp [sapperref17_Sums.j1])
              | succ kj4 =>
                have H := HA.out
                clear HA
                simp only [sapperref17_Sums.j1] at H
                by_cases c13 : x24_4 = true
                · subst c13
                  have H1 : (some (0, 0, false)) = some (r1, r2, r3) := by rw [if_pos rfl] at H; exact H
                  clear H
                  have H := H1
                  clear H1
                  simp only [Option.some.injEq, Prod.mk.injEq] at H
                  obtain ⟨rfl, rfl, rfl⟩ := H
                  go_wp2
                  go_ret3
                  exact ⟨by first | rfl | (simp [errW_none, errW_some] <;> rfl) | (simp [*, errW_none, errW_some] <;> rfl), by repeat (first | (with_reducible first | exact HB.out | apply below_alloc | apply pw_below_drewN | apply below_drew1 | refine below_set ?_ GE176.out) | exact HB.out)⟩
                · replace c13 := Bool.eq_false_iff.mpr c13
                  subst c13
                  have H1 : (if (wrap64 (x5_1 + ((rd_T81 l0 x11_1).f0))) > 16777216 then (some (0, 0, false)) else (if (wrap64 (x6_1 + ((rd_T81 l0 x11_1).f1))) > 16777216 then (some (0, 0, false)) else (sapperref17_Sums.l0 kj4 (wrap64 (x5_1 + ((rd_T81 l0 x11_1).f0))) (wrap64 (x6_1 + ((rd_T81 l0 x11_1).f1))) l0 (l0.length : Int) (wrap64 (x11_1 + 1))))) = some (r1, r2, r3) := by rw [if_neg (show ¬ (false = true) by decide)] at H; exact H
                  clear H
                  have H := H1
                  clear H1
                  by_cases c14 : (wrap64 (x5_1 + ((rd_T81 l0 x11_1).f0))) > 16777216
                  · rw [if_pos c14] at H
                    have c14b0 : decide (16777216 < (wrap64 (x5_1 + ((rd_T81 l0 x11_1).f0)))) = true := decide_eq_true c14
                    clear c14
                    simp only [Option.some.injEq, Prod.mk.injEq] at H
                    obtain ⟨rfl, rfl, rfl⟩ := H
                    have hcz15_0 : wc.cell? ⟨gb176, 0, none⟩ = some (.int .i64 ((rd_T81 l0 x11_1).f0)) := (blk_cell BK176.out 0).trans rfl
                    have hcz15_1 : wc.cell? ⟨gb176, 1, none⟩ = some (.int .i64 ((rd_T81 l0 x11_1).f1)) := (blk_cell BK176.out 1).trans rfl
                    have hcz15_2 : wc.cell? ⟨gb176, 2, none⟩ = some (.int .i64 ((rd_T81 l0 x11_1).f2)) := (blk_cell BK176.out 2).trans rfl
                    have hfz15_0 := blk_frozen BK176.out 0
                    have hfz15_1 := blk_frozen BK176.out 1
                    have hfz15_2 := blk_frozen BK176.out 2
                    go_wp2
                    go_ret3
                    exact ⟨by first | rfl | (simp [errW_none, errW_some] <;> rfl) | (simp [*, errW_none, errW_some] <;> rfl), by repeat (first | (with_reducible first | exact HB.out | apply below_alloc | apply pw_below_drewN | apply below_drew1 | refine below_set ?_ GE176.out) | exact HB.out)⟩
                  · rw [if_neg c14] at H
                    have c14b0 : decide (16777216 < (wrap64 (x5_1 + ((rd_T81 l0 x11_1).f0)))) = false := decide_eq_false c14
                    clear c14
                    by_cases c16 : (wrap64 (x6_1 + ((rd_T81 l0 x11_1).f1))) > 16777216
                    · rw [if_pos c16] at H
                      have c16b0 : decide (16777216 < (wrap64 (x6_1 + ((rd_T81 l0 x11_1).f1)))) = true := decide_eq_true c16
                      clear c16
                      simp only [Option.some.injEq, Prod.mk.injEq] at H
                      obtain ⟨rfl, rfl, rfl⟩ := H
                      have hcz17_0 : wc.cell? ⟨gb176, 0, none⟩ = some (.int .i64 ((rd_T81 l0 x11_1).f0)) := (blk_cell BK176.out 0).trans rfl
                      have hcz17_1 : wc.cell? ⟨gb176, 1, none⟩ = some (.int .i64 ((rd_T81 l0 x11_1).f1)) := (blk_cell BK176.out 1).trans rfl
                      have hcz17_2 : wc.cell? ⟨gb176, 2, none⟩ = some (.int .i64 ((rd_T81 l0 x11_1).f2)) := (blk_cell BK176.out 2).trans rfl
                      have hfz17_0 := blk_frozen BK176.out 0
                      have hfz17_1 := blk_frozen BK176.out 1
                      have hfz17_2 := blk_frozen BK176.out 2
                      go_wp2
                      go_ret3
                      exact ⟨by first | rfl | (simp [errW_none, errW_some] <;> rfl) | (simp [*, errW_none, errW_some] <;> rfl), by repeat (first | (with_reducible first | exact HB.out | apply below_alloc | apply pw_below_drewN | apply below_drew1 | refine below_set ?_ GE176.out) | exact HB.out)⟩
                    · rw [if_neg c16] at H
                      have c16b0 : decide (16777216 < (wrap64 (x6_1 + ((rd_T81 l0 x11_1).f1)))) = false := decide_eq_false c16
                      clear c16
                      have H' := Aside0.mk H
                      clear H
                      have hcz18_0 : wc.cell? ⟨gb176, 0, none⟩ = some (.int .i64 ((rd_T81 l0 x11_1).f0)) := (blk_cell BK176.out 0).trans rfl
                      have hcz18_1 : wc.cell? ⟨gb176, 1, none⟩ = some (.int .i64 ((rd_T81 l0 x11_1).f1)) := (blk_cell BK176.out 1).trans rfl
                      have hcz18_2 : wc.cell? ⟨gb176, 2, none⟩ = some (.int .i64 ((rd_T81 l0 x11_1).f2)) := (blk_cell BK176.out 2).trans rfl
                      have hfz18_0 := blk_frozen BK176.out 0
                      have hfz18_1 := blk_frozen BK176.out 1
                      have hfz18_2 := blk_frozen BK176.out 2
                      go_wp2
                      go_roundg kj4
                      case measure => have := HK1.out; have := HJ4.out; omega
                      case rel => exact ⟨(wrap64 (x5_1 + ((rd_T81 l0 x11_1).f0))), (wrap64 (x6_1 + ((rd_T81 l0 x11_1).f1))), (wrap64 (x11_1 + 1)), (by first | rfl | (simp; done) | (simp [*]; done)), (by first | rfl | (simp; done) | (simp [*]; done)), (by first | rfl | (simp; done) | (simp [*]; done)), H', ⟨by have := HK1.out; have := HJ4.out; omega⟩, ⟨by repeat (first | (with_reducible first | exact HB.out | apply below_alloc | apply pw_below_drewN | apply below_drew1 | refine below_set ?_ GE176.out) | exact HB.out)⟩⟩
          · rw [if_neg c4] at H
            exact absurd H (by simp)
        · rw [if_neg c3] at H
          exact absurd H (by simp)
      · rw [if_neg c2] at H
        have c2b0 : decide (x11_1 < (l0.length : Int)) = false := decide_eq_false c2
        clear c2
        simp only [Option.some.injEq, Prod.mk.injEq] at H
        obtain ⟨rfl, rfl, rfl⟩ := H
        go_wp2
        go_ret3
        exact ⟨by first | rfl | (simp [errW_none, errW_some] <;> rfl) | (simp [*, errW_none, errW_some] <;> rfl), by repeat (first | (with_reducible first | exact HB.out | apply below_alloc | apply pw_below_drewN | apply below_drew1) | exact HB.out)⟩

/-! ### sapperref17_Check: function 21 -/
mutual
def sapperref17_Check.j0 : Nat → Int → Bool → Int → List (S81) → List Int → List Int → Option (Int)
  | 0, _, _, _, _, _, _ => none
  | k + 1, x1, x62, x180000, x180001, x180002, x180003 => if x62 = true then (some 171) else (sapperref17_Check.l0 k x1 x180000 x180001 (x180001.length : Int) 0 x180000 x180001 x180002 x180003)
def sapperref17_Check.l0 : Nat → Int → Int → List (S81) → Int → Int → Int → List (S81) → List Int → List Int → Option (Int)
  | 0, _, _, _, _, _, _, _, _, _ => none
  | k + 1, x1, x10, x67, x68, x69, x180000, x180001, x180002, x180003 => if x69 < x68 then (if 0 ≤ x69 then (if x69 < (x67.length : Int) then (if ((rd_T81 x67 x69).f0) = 0 then (if ((rd_T81 x67 x69).f1) = 0 then (sapperref17_Check.j2 k x1 x10 x67 x68 x69 true x180000 x180001 x180002 x180003 ((rd_T81 x67 x69).f0) ((rd_T81 x67 x69).f1) ((rd_T81 x67 x69).f2)) else (if x69 = (wrap64 ((x180001.length : Int) - 1)) then (if ((rd_T81 x67 x69).f2) = 0 then ((sapperref17_in.f ((rd_T81 x67 x69).f2) (-16777216) 16777216).bind fun t188 => (sapperref17_Check.j2 k x1 x10 x67 x68 x69 (!t188) x180000 x180001 x180002 x180003 ((rd_T81 x67 x69).f0) ((rd_T81 x67 x69).f1) ((rd_T81 x67 x69).f2))) else (sapperref17_Check.j2 k x1 x10 x67 x68 x69 true x180000 x180001 x180002 x180003 ((rd_T81 x67 x69).f0) ((rd_T81 x67 x69).f1) ((rd_T81 x67 x69).f2))) else ((sapperref17_in.f ((rd_T81 x67 x69).f2) (-16777216) 16777216).bind fun t189 => (sapperref17_Check.j2 k x1 x10 x67 x68 x69 (!t189) x180000 x180001 x180002 x180003 ((rd_T81 x67 x69).f0) ((rd_T81 x67 x69).f1) ((rd_T81 x67 x69).f2))))) else (if x69 = (wrap64 ((x180001.length : Int) - 1)) then (if ((rd_T81 x67 x69).f2) = 0 then ((sapperref17_in.f ((rd_T81 x67 x69).f2) (-16777216) 16777216).bind fun t190 => (sapperref17_Check.j2 k x1 x10 x67 x68 x69 (!t190) x180000 x180001 x180002 x180003 ((rd_T81 x67 x69).f0) ((rd_T81 x67 x69).f1) ((rd_T81 x67 x69).f2))) else (sapperref17_Check.j2 k x1 x10 x67 x68 x69 true x180000 x180001 x180002 x180003 ((rd_T81 x67 x69).f0) ((rd_T81 x67 x69).f1) ((rd_T81 x67 x69).f2))) else ((sapperref17_in.f ((rd_T81 x67 x69).f2) (-16777216) 16777216).bind fun t191 => (sapperref17_Check.j2 k x1 x10 x67 x68 x69 (!t191) x180000 x180001 x180002 x180003 ((rd_T81 x67 x69).f0) ((rd_T81 x67 x69).f1) ((rd_T81 x67 x69).f2))))) else (none)) else (none)) else (some 0)
def sapperref17_Check.j2 : Nat → Int → Int → List (S81) → Int → Int → Bool → Int → List (S81) → List Int → List Int → Int → Int → Int → Option (Int)
  | 0, _, _, _, _, _, _, _, _, _, _, _, _, _ => none
  | k + 1, x1, x10, x67, x68, x69, x101, x180000, x180001, x180002, x180003, x188000, x188001, x188002 => if x101 = true then (some 171) else ((sapperref17_in.f (wrap64 (x10 + x188000)) 0 x1).bind fun t192 => (if t192 = true then ((sapperref17_in.f (wrap64 ((wrap64 (x10 + x188000)) + x188002)) 0 x1).bind fun t193 => (if t193 = true then (sapperref17_Check.l0 k x1 (wrap64 (x10 + (wrap64 (x188000 + x188002)))) x67 x68 (wrap64 (x69 + 1)) x180000 x180001 x180002 x180003) else (some 171))) else (some 171)))
end
def sapperref17_Check.f (k : Nat) (a0_0 : Int) (l0_1 : List (S81)) (l0_2 : List Int) (l0_3 : List Int) (a1 : Int) (a2 : Int) : Option (Int) := (sapperref17_Sums.f k l0_1).bind fun bt180 => (if bt180.2.2 = true then ((sapperref17_in.f a2 1 65536).bind fun t183 => (if t183 = true then ((sapperref17_in.f a1 0 16777216).bind fun t184 => (if t184 = true then (if bt180.1 = (l0_2.length : Int) then (if bt180.2.1 = (l0_3.length : Int) then (if (wrap64 (bt180.1 + bt180.2.1)) = a2 then ((sapperref17_in.f a0_0 0 a1).bind fun t185 => (sapperref17_Check.j0 k a1 (!t185) a0_0 l0_1 l0_2 l0_3)) else (sapperref17_Check.j0 k a1 true a0_0 l0_1 l0_2 l0_3)) else (sapperref17_Check.j0 k a1 true a0_0 l0_1 l0_2 l0_3)) else (sapperref17_Check.j0 k a1 true a0_0 l0_1 l0_2 l0_3)) else (sapperref17_Check.j0 k a1 true a0_0 l0_1 l0_2 l0_3))) else (sapperref17_Check.j0 k a1 true a0_0 l0_1 l0_2 l0_3))) else (sapperref17_Check.j0 k a1 true a0_0 l0_1 l0_2 l0_3))
theorem sapperref17_Check.mono_l : ∀ k, (∀ y0 y1 y2 y3 y4 y5, LeO (sapperref17_Check.j0 k y0 y1 y2 y3 y4 y5) (sapperref17_Check.j0 (k + 1) y0 y1 y2 y3 y4 y5)) ∧ (∀ y0 y1 y2 y3 y4 y5 y6 y7 y8, LeO (sapperref17_Check.l0 k y0 y1 y2 y3 y4 y5 y6 y7 y8) (sapperref17_Check.l0 (k + 1) y0 y1 y2 y3 y4 y5 y6 y7 y8)) ∧ (∀ y0 y1 y2 y3 y4 y5 y6 y7 y8 y9 y10 y11 y12, LeO (sapperref17_Check.j2 k y0 y1 y2 y3 y4 y5 y6 y7 y8 y9 y10 y11 y12) (sapperref17_Check.j2 (k + 1) y0 y1 y2 y3 y4 y5 y6 y7 y8 y9 y10 y11 y12))
  | 0 => ⟨fun _ _ _ _ _ _ r h => by simp [sapperref17_Check.j0] at h, fun _ _ _ _ _ _ _ _ _ r h => by simp [sapperref17_Check.l0] at h, fun _ _ _ _ _ _ _ _ _ _ _ _ _ r h => by simp [sapperref17_Check.j2] at h⟩
  | k + 1 => by
    obtain ⟨ih0, ih1, ih2⟩ := sapperref17_Check.mono_l k
    refine ⟨?_, ?_, ?_⟩
    · intro y0 y1 y2 y3 y4 y5
      unfold sapperref17_Check.j0
      repeat' first
      | (with_reducible exact ih0 _ _ _ _ _ _)
      | (with_reducible exact ih1 _ _ _ _ _ _ _ _ _)
      | (with_reducible exact ih2 _ _ _ _ _ _ _ _ _ _ _ _ _)
      | (with_reducible exact sapperref17_Sums.mono _ _)
      | (with_reducible exact LeO.refl _)
      | (with_reducible exact LeO.none _)
      | (with_reducible refine LeO.ite ?_ ?_)
      | (with_reducible refine LeO.bind ?_ (fun _ => ?_))
      | exact ih0 _ _ _ _ _ _
      | exact ih1 _ _ _ _ _ _ _ _ _
      | exact ih2 _ _ _ _ _ _ _ _ _ _ _ _ _
      | exact sapperref17_Sums.mono _ _
      | exact LeO.none _
      | refine LeO.ite ?_ ?_
      | refine LeO.bind ?_ (fun _ => ?_)
    · intro y0 y1 y2 y3 y4 y5 y6 y7 y8
      unfold sapperref17_Check.l0
      repeat' first
      | (with_reducible exact ih0 _ _ _ _ _ _)
      | (with_reducible exact ih1 _ _ _ _ _ _ _ _ _)
      | (with_reducible exact ih2 _ _ _ _ _ _ _ _ _ _ _ _ _)
      | (with_reducible exact sapperref17_Sums.mono _ _)
      | (with_reducible exact LeO.refl _)
      | (with_reducible exact LeO.none _)
      | (with_reducible refine LeO.ite ?_ ?_)
      | (with_reducible refine LeO.bind ?_ (fun _ => ?_))
      | exact ih0 _ _ _ _ _ _
      | exact ih1 _ _ _ _ _ _ _ _ _
      | exact ih2 _ _ _ _ _ _ _ _ _ _ _ _ _
      | exact sapperref17_Sums.mono _ _
      | exact LeO.none _
      | refine LeO.ite ?_ ?_
      | refine LeO.bind ?_ (fun _ => ?_)
    · intro y0 y1 y2 y3 y4 y5 y6 y7 y8 y9 y10 y11 y12
      unfold sapperref17_Check.j2
      repeat' first
      | (with_reducible exact ih0 _ _ _ _ _ _)
      | (with_reducible exact ih1 _ _ _ _ _ _ _ _ _)
      | (with_reducible exact ih2 _ _ _ _ _ _ _ _ _ _ _ _ _)
      | (with_reducible exact sapperref17_Sums.mono _ _)
      | (with_reducible exact LeO.refl _)
      | (with_reducible exact LeO.none _)
      | (with_reducible refine LeO.ite ?_ ?_)
      | (with_reducible refine LeO.bind ?_ (fun _ => ?_))
      | exact ih0 _ _ _ _ _ _
      | exact ih1 _ _ _ _ _ _ _ _ _
      | exact ih2 _ _ _ _ _ _ _ _ _ _ _ _ _
      | exact sapperref17_Sums.mono _ _
      | exact LeO.none _
      | refine LeO.ite ?_ ?_
      | refine LeO.bind ?_ (fun _ => ?_)
theorem sapperref17_Check.mono : ∀ a0 a1 a2 a3 a4 a5 k, LeO (sapperref17_Check.f k a0 a1 a2 a3 a4 a5) (sapperref17_Check.f (k + 1) a0 a1 a2 a3 a4 a5) := by
  intro a0 a1 a2 a3 a4 a5 k
  obtain ⟨ih0, ih1, ih2⟩ := sapperref17_Check.mono_l k
  unfold sapperref17_Check.f
  repeat' first
      | (with_reducible exact ih0 _ _ _ _ _ _)
      | (with_reducible exact ih1 _ _ _ _ _ _ _ _ _)
      | (with_reducible exact ih2 _ _ _ _ _ _ _ _ _ _ _ _ _)
      | (with_reducible exact sapperref17_Sums.mono _ _)
      | (with_reducible exact LeO.refl _)
      | (with_reducible exact LeO.none _)
      | (with_reducible refine LeO.ite ?_ ?_)
      | (with_reducible refine LeO.bind ?_ (fun _ => ?_))
      | exact ih0 _ _ _ _ _ _
      | exact ih1 _ _ _ _ _ _ _ _ _
      | exact ih2 _ _ _ _ _ _ _ _ _ _ _ _ _
      | exact sapperref17_Sums.mono _ _
      | exact LeO.none _
      | refine LeO.ite ?_ ?_
      | refine LeO.bind ?_ (fun _ => ?_)
set_option maxHeartbeats 8000000 in
set_option maxRecDepth 100000 in
theorem sapperref17_Check.calls (k : Nat) (a0_0 : Int) (A0_1 : Option Addr) (c0_1 : Nat) (l0_1 : List (S81)) (A0_2 : Option Addr) (c0_2 : Nat) (l0_2 : List Int) (A0_3 : Option Addr) (c0_3 : Nat) (l0_3 : List Int) (a1 : Int) (a2 : Int) (r : Int) (w : World) (hr0_1 : Kd.C k81 w A0_1 l0_1.length l0_1) (hc0_1 : l0_1.length ≤ c0_1) (hr0_2 : Kd.C (Kd.int .u8) w A0_2 l0_2.length l0_2) (hc0_2 : l0_2.length ≤ c0_2) (hr0_3 : Kd.C (Kd.int .u8) w A0_3 l0_3.length l0_3) (hc0_3 : l0_3.length ≤ c0_3) (h : sapperref17_Check.f k a0_0 l0_1 l0_2 l0_3 a1 a2 = some r) :
    Calls Try.prog 21 #[.agg #[.int .i64 a0_0, .slice A0_1 l0_1.length c0_1, .slice A0_2 l0_2.length c0_2, .slice A0_3 l0_3.length c0_3], .int .i64 a1, .int .i64 a2] w fun e w' => e = .returned (.int .i64 r) ∧ Below w.heap.size w w' := by
  have hu45 := Try.underlying45
  have hu81 := Try.underlying81
  have HR0_1 := Aside0.mk hr0_1
  have HC0_1 := Aside0.mk hc0_1
  clear hr0_1 hc0_1
  have HR0_2 := Aside0.mk hr0_2
  have HC0_2 := Aside0.mk hc0_2
  clear hr0_2 hc0_2
  have HR0_3 := Aside0.mk hr0_3
  have HC0_3 := Aside0.mk hc0_3
  clear hr0_3 hc0_3
  have HB := Aside0.mk (Below.refl w.heap.size w)
  have H : ((sapperref17_Sums.f k l0_1).bind fun bt180 => (if bt180.2.2 = true then ((sapperref17_in.f a2 1 65536).bind fun t183 => (if t183 = true then ((sapperref17_in.f a1 0 16777216).bind fun t184 => (if t184 = true then (if bt180.1 = (l0_2.length : Int) then (if bt180.2.1 = (l0_3.length : Int) then (if (wrap64 (bt180.1 + bt180.2.1)) = a2 then ((sapperref17_in.f a0_0 0 a1).bind fun t185 => (sapperref17_Check.j0 k a1 (!t185) a0_0 l0_1 l0_2 l0_3)) else (sapperref17_Check.j0 k a1 true a0_0 l0_1 l0_2 l0_3)) else (sapperref17_Check.j0 k a1 true a0_0 l0_1 l0_2 l0_3)) else (sapperref17_Check.j0 k a1 true a0_0 l0_1 l0_2 l0_3)) else (sapperref17_Check.j0 k a1 true a0_0 l0_1 l0_2 l0_3))) else (sapperref17_Check.j0 k a1 true a0_0 l0_1 l0_2 l0_3))) else (sapperref17_Check.j0 k a1 true a0_0 l0_1 l0_2 l0_3))) = some r := h
  clear h
  replace H := Option.bind_eq_some_iff.mp H
  obtain ⟨⟨t180, t181, t182⟩, A40, H⟩ := H
  replace H : (if t182 = true then ((sapperref17_in.f a2 1 65536).bind fun t183 => (if t183 = true then ((sapperref17_in.f a1 0 16777216).bind fun t184 => (if t184 = true then (if t180 = (l0_2.length : Int) then (if t181 = (l0_3.length : Int) then (if (wrap64 (t180 + t181)) = a2 then ((sapperref17_in.f a0_0 0 a1).bind fun t185 => (sapperref17_Check.j0 k a1 (!t185) a0_0 l0_1 l0_2 l0_3)) else (sapperref17_Check.j0 k a1 true a0_0 l0_1 l0_2 l0_3)) else (sapperref17_Check.j0 k a1 true a0_0 l0_1 l0_2 l0_3)) else (sapperref17_Check.j0 k a1 true a0_0 l0_1 l0_2 l0_3)) else (sapperref17_Check.j0 k a1 true a0_0 l0_1 l0_2 l0_3))) else (sapperref17_Check.j0 k a1 true a0_0 l0_1 l0_2 l0_3))) else (sapperref17_Check.j0 k a1 true a0_0 l0_1 l0_2 l0_3)) = some r := H
  have A4 := Aside0.mk A40
  clear A40
  have HC5 := Aside0.mk H
  clear H
  go_enter Try.func21, Try.ntmps21
  go_upto_region 2 with (first | ((with_reducible refine gate_dst (N := 3) rfl ?_); (try (refine gate_guard (by rfl) ?_; dsimp only)); refine box_event ?hg (N := 3) ?hd (cs := #[.int .i64 a0_0, .slice A0_1 l0_1.length c0_1, .slice A0_2 l0_2.length c0_2, .slice A0_3 l0_3.length c0_3]) (t := 45) ?hr ?_; (case hd => rfl); (case hg => rfl); (case hr => first | (go_simp; done) | (go_simp; rfl)); intro gb179 hg w6 hbox hb; have n0_ := Aside0.mk (below_step (by repeat (first | (with_reducible first | exact HB.out | apply below_alloc | apply pw_below_drewN | apply below_drew1) | exact HB.out)) hb); have n1_ := Aside0.mk (hbox); have n2_ := Aside0.mk ((by rw [hg]; exact (below_size (by repeat (first | (with_reducible first | exact HB.out | apply below_alloc | apply pw_below_drewN | apply below_drew1) | exact HB.out))) : w.heap.size ≤ gb179)); have n3_ := Aside0.mk ((by rw [hg]; exact (below_size (by repeat (first | (with_reducible first | exact HB.out | apply below_alloc | apply pw_below_drewN | apply below_drew1) | exact HB.out))) : w.heap.size ≤ gb179)); clear HB; have HB := n0_; have BK179 := n1_; have GW179 := n2_; have GE179 := n3_; clear n0_ n1_ n2_ n3_; clear hb hbox hg; have hcz7_0 : w6.cell? ⟨gb179, 0, none⟩ = some (.int .i64 a0_0) := (blk_cell BK179.out 0).trans rfl; have hcz7_1 : w6.cell? ⟨gb179, 1, none⟩ = some (.slice A0_1 l0_1.length c0_1) := (blk_cell BK179.out 1).trans rfl; have hcz7_2 : w6.cell? ⟨gb179, 2, none⟩ = some (.slice A0_2 l0_2.length c0_2) := (blk_cell BK179.out 2).trans rfl; have hcz7_3 : w6.cell? ⟨gb179, 3, none⟩ = some (.slice A0_3 l0_3.length c0_3) := (blk_cell BK179.out 3).trans rfl; have hfz7_0 := blk_frozen BK179.out 0; have hfz7_1 := blk_frozen BK179.out 1; have hfz7_2 := blk_frozen BK179.out 2; have hfz7_3 := blk_frozen BK179.out 3) | ((with_reducible refine gate_callee (f := 48) rfl ?_); refine goesL_ (some 17) rfl rfl Try.func48 (by kernel_rfl) rfl #[.slice A0_1 l0_1.length c0_1] rfl (by (try simp only [List.map_toArray, List.map_cons, List.map_nil]); first | done | rfl | (simp only [List.length_drop, List.length_take]; rfl)) ?_; (with_reducible refine (sapperref17_Sums.calls k _ _ l0_1 t180 t181 t182 _ ?side1 ?side2 A4.out).mono ?_); (case side1 => repeat (first | exact (Kd.C_below HR0_1.out HB.out) | (with_reducible refine Kd.C_alloc ?_ _) | (with_reducible refine Kd.C_drewN ?_ _) | (with_reducible refine Kd.C_drew ?_))); (case side2 => exact HC0_1.out); rintro e w8 ⟨rfl, hb⟩; refine ⟨_, rfl, ?_⟩; have n0_ := Aside0.mk (blk_below (g := gb179) (o := .cells #[.int .i64 a0_0, .slice A0_1 l0_1.length c0_1, .slice A0_2 l0_2.length c0_2, .slice A0_3 l0_3.length c0_3] 45 (0, 0)) (by (with_reducible repeat (first | refine blk_drewN ?_ _ | refine blk_drew ?_ | refine blk_alloc ?_ _)); exact BK179.out) hb); have n1_ := Aside0.mk (below_step (by repeat (first | (with_reducible first | exact HB.out | apply below_alloc | apply pw_below_drewN | apply below_drew1 | refine below_set ?_ GE179.out) | exact HB.out)) hb); clear BK179; clear HB; have BK179 := n0_; have HB := n1_; clear n0_ n1_; (try clear hb); (try clear hb2); (try clear hk); (try clear hi)))
  (try simp only [Act.put, List.setIfInBounds_toArray, List.set_cons_zero, List.set_cons_succ])
  go_cut [62] (fun v62 wc => ∃ (kq : Nat) (x62_4 : Bool), v62 = .bool x62_4 ∧ Aside0 (sapperref17_Check.j0 kq a1 x62_4 a0_0 l0_1 l0_2 l0_3 = some r) ∧ Aside0 (kq ≤ k) ∧ Aside0 (wc.heap[gb179]? = some (.cells #[.int .i64 a0_0, (.slice A0_1 l0_1.length c0_1), (.slice A0_2 l0_2.length c0_2), (.slice A0_3 l0_3.length c0_3)] 45 (0, 0))) ∧ Aside0 (Below w.heap.size w wc))
  case first =>
    have H := HC5.out
    clear HC5
    by_cases c9 : t182 = true
    · subst c9
      have H1 : ((sapperref17_in.f a2 1 65536).bind fun t183 => (if t183 = true then ((sapperref17_in.f a1 0 16777216).bind fun t184 => (if t184 = true then (if t180 = (l0_2.length : Int) then (if t181 = (l0_3.length : Int) then (if (wrap64 (t180 + t181)) = a2 then ((sapperref17_in.f a0_0 0 a1).bind fun t185 => (sapperref17_Check.j0 k a1 (!t185) a0_0 l0_1 l0_2 l0_3)) else (sapperref17_Check.j0 k a1 true a0_0 l0_1 l0_2 l0_3)) else (sapperref17_Check.j0 k a1 true a0_0 l0_1 l0_2 l0_3)) else (sapperref17_Check.j0 k a1 true a0_0 l0_1 l0_2 l0_3)) else (sapperref17_Check.j0 k a1 true a0_0 l0_1 l0_2 l0_3))) else (sapperref17_Check.j0 k a1 true a0_0 l0_1 l0_2 l0_3))) = some r := by rw [if_pos rfl] at H; exact H
      clear H
      have H := H1
      clear H1
      replace H := Option.bind_eq_some_iff.mp H
      obtain ⟨t183, A100, H⟩ := H
      replace H : (if t183 = true then ((sapperref17_in.f a1 0 16777216).bind fun t184 => (if t184 = true then (if t180 = (l0_2.length : Int) then (if t181 = (l0_3.length : Int) then (if (wrap64 (t180 + t181)) = a2 then ((sapperref17_in.f a0_0 0 a1).bind fun t185 => (sapperref17_Check.j0 k a1 (!t185) a0_0 l0_1 l0_2 l0_3)) else (sapperref17_Check.j0 k a1 true a0_0 l0_1 l0_2 l0_3)) else (sapperref17_Check.j0 k a1 true a0_0 l0_1 l0_2 l0_3)) else (sapperref17_Check.j0 k a1 true a0_0 l0_1 l0_2 l0_3)) else (sapperref17_Check.j0 k a1 true a0_0 l0_1 l0_2 l0_3))) else (sapperref17_Check.j0 k a1 true a0_0 l0_1 l0_2 l0_3)) = some r := H
      have A10 := Aside0.mk A100
      clear A100
      by_cases c11 : t183 = true
      · subst c11
        have H1 : ((sapperref17_in.f a1 0 16777216).bind fun t184 => (if t184 = true then (if t180 = (l0_2.length : Int) then (if t181 = (l0_3.length : Int) then (if (wrap64 (t180 + t181)) = a2 then ((sapperref17_in.f a0_0 0 a1).bind fun t185 => (sapperref17_Check.j0 k a1 (!t185) a0_0 l0_1 l0_2 l0_3)) else (sapperref17_Check.j0 k a1 true a0_0 l0_1 l0_2 l0_3)) else (sapperref17_Check.j0 k a1 true a0_0 l0_1 l0_2 l0_3)) else (sapperref17_Check.j0 k a1 true a0_0 l0_1 l0_2 l0_3)) else (sapperref17_Check.j0 k a1 true a0_0 l0_1 l0_2 l0_3))) = some r := by rw [if_pos rfl] at H; exact H
        clear H
        have H := H1
        clear H1
        replace H := Option.bind_eq_some_iff.mp H
        obtain ⟨t184, A120, H⟩ := H
        replace H : (if t184 = true then (if t180 = (l0_2.length : Int) then (if t181 = (l0_3.length : Int) then (if (wrap64 (t180 + t181)) = a2 then ((sapperref17_in.f a0_0 0 a1).bind fun t185 => (sapperref17_Check.j0 k a1 (!t185) a0_0 l0_1 l0_2 l0_3)) else (sapperref17_Check.j0 k a1 true a0_0 l0_1 l0_2 l0_3)) else (sapperref17_Check.j0 k a1 true a0_0 l0_1 l0_2 l0_3)) else (sapperref17_Check.j0 k a1 true a0_0 l0_1 l0_2 l0_3)) else (sapperref17_Check.j0 k a1 true a0_0 l0_1 l0_2 l0_3)) = some r := H
        have A12 := Aside0.mk A120
        clear A120
        by_cases c13 : t184 = true
        · subst c13
          have H1 : (if t180 = (l0_2.length : Int) then (if t181 = (l0_3.length : Int) then (if (wrap64 (t180 + t181)) = a2 then ((sapperref17_in.f a0_0 0 a1).bind fun t185 => (sapperref17_Check.j0 k a1 (!t185) a0_0 l0_1 l0_2 l0_3)) else (sapperref17_Check.j0 k a1 true a0_0 l0_1 l0_2 l0_3)) else (sapperref17_Check.j0 k a1 true a0_0 l0_1 l0_2 l0_3)) else (sapperref17_Check.j0 k a1 true a0_0 l0_1 l0_2 l0_3)) = some r := by rw [if_pos rfl] at H; exact H
          clear H
          have H := H1
          clear H1
          by_cases c14 : t180 = (l0_2.length : Int)
          · rw [if_pos c14] at H
            have c14b0 : (t180 == (l0_2.length : Int)) = true := beq_iff_eq.mpr c14
            have c14b1 : (t180 != (l0_2.length : Int)) = false := bne_eq_false_iff_eq.mpr c14
            clear c14
            (first | rw [c14b0] | (simp only [i64_w, i32_w]; rw [c14b0]) | skip)
            by_cases c15 : t181 = (l0_3.length : Int)
            · rw [if_pos c15] at H
              have c15b0 : (t181 == (l0_3.length : Int)) = true := beq_iff_eq.mpr c15
              have c15b1 : (t181 != (l0_3.length : Int)) = false := bne_eq_false_iff_eq.mpr c15
              clear c15
              by_cases c16 : (wrap64 (t180 + t181)) = a2
              · rw [if_pos c16] at H
                have c16b0 : ((wrap64 (t180 + t181)) == a2) = true := beq_iff_eq.mpr c16
                have c16b1 : ((wrap64 (t180 + t181)) != a2) = false := bne_eq_false_iff_eq.mpr c16
                clear c16
                replace H := Option.bind_eq_some_iff.mp H
                obtain ⟨t185, A170, H⟩ := H
                replace H : (sapperref17_Check.j0 k a1 (!t185) a0_0 l0_1 l0_2 l0_3) = some r := H
                have A17 := Aside0.mk A170
                clear A170
                have H' := Aside0.mk H
                clear H
                go_wp2_with (first | (go_at_call 43; (with_reducible refine (sapperref17_in.calls a2 1 65536 true _ A10.out).mono ?_); rintro e w' ⟨rfl, ⟨nd, rfl⟩⟩) | (go_at_call 43; (with_reducible refine (sapperref17_in.calls a1 0 16777216 true _ A12.out).mono ?_); rintro e w' ⟨rfl, ⟨nd, rfl⟩⟩; have hcz18_0 : w8.cell? ⟨gb179, 0, none⟩ = some (.int .i64 a0_0) := (blk_cell BK179.out 0).trans rfl; have hcz18_1 : w8.cell? ⟨gb179, 1, none⟩ = some (.slice A0_1 l0_1.length c0_1) := (blk_cell BK179.out 1).trans rfl; have hcz18_2 : w8.cell? ⟨gb179, 2, none⟩ = some (.slice A0_2 l0_2.length c0_2) := (blk_cell BK179.out 2).trans rfl; have hcz18_3 : w8.cell? ⟨gb179, 3, none⟩ = some (.slice A0_3 l0_3.length c0_3) := (blk_cell BK179.out 3).trans rfl; have hfz18_0 := blk_frozen BK179.out 0; have hfz18_1 := blk_frozen BK179.out 1; have hfz18_2 := blk_frozen BK179.out 2; have hfz18_3 := blk_frozen BK179.out 3) | (go_at_call 43; (with_reducible refine (sapperref17_in.calls a0_0 0 a1 t185 _ A17.out).mono ?_); rintro e w' ⟨rfl, ⟨nd, rfl⟩⟩))
                go_meet
                case rel => exact ⟨_, (!t185), (by first | rfl | (simp; done) | (simp [*]; done)), H', ⟨by first | omega | exact Nat.le_refl _⟩, ⟨by (with_reducible repeat (first | refine blk_drewN ?_ _ | refine blk_drew ?_ | refine blk_alloc ?_ _)); exact BK179.out⟩, ⟨by repeat (first | (with_reducible first | exact HB.out | apply below_alloc | apply pw_below_drewN | apply below_drew1 | refine below_set ?_ GE179.out) | exact HB.out)⟩⟩
              · rw [if_neg c16] at H
                have c16b0 : ((wrap64 (t180 + t181)) == a2) = false := beq_eq_false_iff_ne.mpr c16
                have c16b1 : ((wrap64 (t180 + t181)) != a2) = true := bne_iff_ne.mpr c16
                have H' := Aside0.mk H
                clear H
                go_wp2_with (first | (go_at_call 43; (with_reducible refine (sapperref17_in.calls a2 1 65536 true _ A10.out).mono ?_); rintro e w' ⟨rfl, ⟨nd, rfl⟩⟩) | (go_at_call 43; (with_reducible refine (sapperref17_in.calls a1 0 16777216 true _ A12.out).mono ?_); rintro e w' ⟨rfl, ⟨nd, rfl⟩⟩; have hcz19_0 : w8.cell? ⟨gb179, 0, none⟩ = some (.int .i64 a0_0) := (blk_cell BK179.out 0).trans rfl; have hcz19_1 : w8.cell? ⟨gb179, 1, none⟩ = some (.slice A0_1 l0_1.length c0_1) := (blk_cell BK179.out 1).trans rfl; have hcz19_2 : w8.cell? ⟨gb179, 2, none⟩ = some (.slice A0_2 l0_2.length c0_2) := (blk_cell BK179.out 2).trans rfl; have hcz19_3 : w8.cell? ⟨gb179, 3, none⟩ = some (.slice A0_3 l0_3.length c0_3) := (blk_cell BK179.out 3).trans rfl; have hfz19_0 := blk_frozen BK179.out 0; have hfz19_1 := blk_frozen BK179.out 1; have hfz19_2 := blk_frozen BK179.out 2; have hfz19_3 := blk_frozen BK179.out 3))
                go_meet
                case rel => exact ⟨_, (true), (by first | rfl | (simp; done) | (simp [*]; done)), H', ⟨by first | omega | exact Nat.le_refl _⟩, ⟨by (with_reducible repeat (first | refine blk_drewN ?_ _ | refine blk_drew ?_ | refine blk_alloc ?_ _)); exact BK179.out⟩, ⟨by repeat (first | (with_reducible first | exact HB.out | apply below_alloc | apply pw_below_drewN | apply below_drew1 | refine below_set ?_ GE179.out) | exact HB.out)⟩⟩
            · rw [if_neg c15] at H
              have c15b0 : (t181 == (l0_3.length : Int)) = false := beq_eq_false_iff_ne.mpr c15
              have c15b1 : (t181 != (l0_3.length : Int)) = true := bne_iff_ne.mpr c15
              have H' := Aside0.mk H
              clear H
              go_wp2_with (first | (go_at_call 43; (with_reducible refine (sapperref17_in.calls a2 1 65536 true _ A10.out).mono ?_); rintro e w' ⟨rfl, ⟨nd, rfl⟩⟩) | (go_at_call 43; (with_reducible refine (sapperref17_in.calls a1 0 16777216 true _ A12.out).mono ?_); rintro e w' ⟨rfl, ⟨nd, rfl⟩⟩; have hcz20_0 : w8.cell? ⟨gb179, 0, none⟩ = some (.int .i64 a0_0) := (blk_cell BK179.out 0).trans rfl; have hcz20_1 : w8.cell? ⟨gb179, 1, none⟩ = some (.slice A0_1 l0_1.length c0_1) := (blk_cell BK179.out 1).trans rfl; have hcz20_2 : w8.cell? ⟨gb179, 2, none⟩ = some (.slice A0_2 l0_2.length c0_2) := (blk_cell BK179.out 2).trans rfl; have hcz20_3 : w8.cell? ⟨gb179, 3, none⟩ = some (.slice A0_3 l0_3.length c0_3) := (blk_cell BK179.out 3).trans rfl; have hfz20_0 := blk_frozen BK179.out 0; have hfz20_1 := blk_frozen BK179.out 1; have hfz20_2 := blk_frozen BK179.out 2; have hfz20_3 := blk_frozen BK179.out 3))
              go_meet
              case rel => exact ⟨_, (true), (by first | rfl | (simp; done) | (simp [*]; done)), H', ⟨by first | omega | exact Nat.le_refl _⟩, ⟨by (with_reducible repeat (first | refine blk_drewN ?_ _ | refine blk_drew ?_ | refine blk_alloc ?_ _)); exact BK179.out⟩, ⟨by repeat (first | (with_reducible first | exact HB.out | apply below_alloc | apply pw_below_drewN | apply below_drew1 | refine below_set ?_ GE179.out) | exact HB.out)⟩⟩
          · rw [if_neg c14] at H
            have c14b0 : (t180 == (l0_2.length : Int)) = false := beq_eq_false_iff_ne.mpr c14
            have c14b1 : (t180 != (l0_2.length : Int)) = true := bne_iff_ne.mpr c14
            (first | rw [c14b0] | (simp only [i64_w, i32_w]; rw [c14b0]) | skip)
            have H' := Aside0.mk H
            clear H
            go_wp2_with (first | (go_at_call 43; (with_reducible refine (sapperref17_in.calls a2 1 65536 true _ A10.out).mono ?_); rintro e w' ⟨rfl, ⟨nd, rfl⟩⟩) | (go_at_call 43; (with_reducible refine (sapperref17_in.calls a1 0 16777216 true _ A12.out).mono ?_); rintro e w' ⟨rfl, ⟨nd, rfl⟩⟩; have hcz21_0 : w8.cell? ⟨gb179, 0, none⟩ = some (.int .i64 a0_0) := (blk_cell BK179.out 0).trans rfl; have hcz21_1 : w8.cell? ⟨gb179, 1, none⟩ = some (.slice A0_1 l0_1.length c0_1) := (blk_cell BK179.out 1).trans rfl; have hcz21_2 : w8.cell? ⟨gb179, 2, none⟩ = some (.slice A0_2 l0_2.length c0_2) := (blk_cell BK179.out 2).trans rfl; have hcz21_3 : w8.cell? ⟨gb179, 3, none⟩ = some (.slice A0_3 l0_3.length c0_3) := (blk_cell BK179.out 3).trans rfl; have hfz21_0 := blk_frozen BK179.out 0; have hfz21_1 := blk_frozen BK179.out 1; have hfz21_2 := blk_frozen BK179.out 2; have hfz21_3 := blk_frozen BK179.out 3))
            go_meet
            case rel => exact ⟨_, (true), (by first | rfl | (simp; done) | (simp [*]; done)), H', ⟨by first | omega | exact Nat.le_refl _⟩, ⟨by (with_reducible repeat (first | refine blk_drewN ?_ _ | refine blk_drew ?_ | refine blk_alloc ?_ _)); exact BK179.out⟩, ⟨by repeat (first | (with_reducible first | exact HB.out | apply below_alloc | apply pw_below_drewN | apply below_drew1 | refine below_set ?_ GE179.out) | exact HB.out)⟩⟩
        · replace c13 := Bool.eq_false_iff.mpr c13
          subst c13
          have H1 : (sapperref17_Check.j0 k a1 true a0_0 l0_1 l0_2 l0_3) = some r := by rw [if_neg (show ¬ (false = true) by decide)] at H; exact H
          clear H
          have H := H1
          clear H1
          have H' := Aside0.mk H
          clear H
          go_wp2_with (first | (go_at_call 43; (with_reducible refine (sapperref17_in.calls a2 1 65536 true _ A10.out).mono ?_); rintro e w' ⟨rfl, ⟨nd, rfl⟩⟩) | (go_at_call 43; (with_reducible refine (sapperref17_in.calls a1 0 16777216 false _ A12.out).mono ?_); rintro e w' ⟨rfl, ⟨nd, rfl⟩⟩))
          go_meet
          case rel => exact ⟨_, (true), (by first | rfl | (simp; done) | (simp [*]; done)), H', ⟨by first | omega | exact Nat.le_refl _⟩, ⟨by (with_reducible repeat (first | refine blk_drewN ?_ _ | refine blk_drew ?_ | refine blk_alloc ?_ _)); exact BK179.out⟩, ⟨by repeat (first | (with_reducible first | exact HB.out | apply below_alloc | apply pw_below_drewN | apply below_drew1 | refine below_set ?_ GE179.out) | exact HB.out)⟩⟩
      · replace c11 := Bool.eq_false_iff.mpr c11
        subst c11
        have H1 : (sapperref17_Check.j0 k a1 true a0_0 l0_1 l0_2 l0_3) = some r := by rw [if_neg (show ¬ (false = true) by decide)] at H; exact H
        clear H
        have H := H1
        clear H1
        have H' := Aside0.mk H
        clear H
        go_wp2_with (first | (go_at_call 43; (with_reducible refine (sapperref17_in.calls a2 1 65536 false _ A10.out).mono ?_); rintro e w' ⟨rfl, ⟨nd, rfl⟩⟩))
        go_meet
        case rel => exact ⟨_, (true), (by first | rfl | (simp; done) | (simp [*]; done)), H', ⟨by first | omega | exact Nat.le_refl _⟩, ⟨by (with_reducible repeat (first | refine blk_drewN ?_ _ | refine blk_drew ?_ | refine blk_alloc ?_ _)); exact BK179.out⟩, ⟨by repeat (first | (with_reducible first | exact HB.out | apply below_alloc | apply pw_below_drewN | apply below_drew1 | refine below_set ?_ GE179.out) | exact HB.out)⟩⟩
    · replace c9 := Bool.eq_false_iff.mpr c9
      subst c9
      have H1 : (sapperref17_Check.j0 k a1 true a0_0 l0_1 l0_2 l0_3) = some r := by rw [if_neg (show ¬ (false = true) by decide)] at H; exact H
      clear H
      have H := H1
      clear H1
      have H' := Aside0.mk H
      clear H
      go_wp2
      go_meet
      case rel => exact ⟨_, (true), (by first | rfl | (simp; done) | (simp [*]; done)), H', ⟨by first | omega | exact Nat.le_refl _⟩, ⟨by (with_reducible repeat (first | refine blk_drewN ?_ _ | refine blk_drew ?_ | refine blk_alloc ?_ _)); exact BK179.out⟩, ⟨by repeat (first | (with_reducible first | exact HB.out | apply below_alloc | apply pw_below_drewN | apply below_drew1 | refine below_set ?_ GE179.out) | exact HB.out)⟩⟩
  case rest =>
    clear HC5
    try clear c1
    try clear c2
    try clear p2
    try clear c4
    try clear p6
    try clear c9
    try clear c11
    try clear c13
    try clear c14
    try clear c14b0
    try clear c14b1
    try clear c15
    try clear c15b0
    try clear c15b1
    try clear c16
    try clear c16b0
    try clear c16b1
    try clear c21
    try clear hcz18_0
    try clear hcz18_1
    try clear hcz18_2
    try clear hcz18_3
    try clear hcz19_0
    try clear hcz19_1
    try clear hcz19_2
    try clear hcz19_3
    try clear hcz20_0
    try clear hcz20_1
    try clear hcz20_2
    try clear hcz20_3
    try clear hcz21_0
    try clear hcz21_1
    try clear hcz21_2
    try clear hcz21_3
    try clear hcz7_0
    try clear hcz7_1
    try clear hcz7_2
    try clear hcz7_3
    try clear hfz18_0
    try clear hfz18_1
    try clear hfz18_2
    try clear hfz18_3
    try clear hfz19_0
    try clear hfz19_1
    try clear hfz19_2
    try clear hfz19_3
    try clear hfz20_0
    try clear hfz20_1
    try clear hfz20_2
    try clear hfz20_3
    try clear hfz21_0
    try clear hfz21_1
    try clear hfz21_2
    try clear hfz21_3
    try clear hfz7_0
    try clear hfz7_1
    try clear hfz7_2
    try clear hfz7_3
    obtain ⟨kq, x62_4, rfl, HA, HJ4, BK179, HB⟩ := hcut
    cases kq with
    | zero => exact absurd HA.out (by simp [sapperref17_Check.j0])
    | succ kj4 =>
      have H := HA.out
      clear HA
      simp only [sapperref17_Check.j0] at H
      by_cases c22 : x62_4 = true
      · subst c22
        have H1 : (some 171) = some r := by rw [if_pos rfl] at H; exact H
        clear H
        have H := H1
        clear H1
        obtain rfl := Option.some.inj H
        go_wp2
        go_ret
        exact ⟨by first | rfl | (simp [errW_none, errW_some] <;> rfl) | (simp [*, errW_none, errW_some] <;> rfl), by repeat (first | (with_reducible first | exact HB.out | apply below_alloc | apply pw_below_drewN | apply below_drew1 | refine below_set ?_ GE179.out) | exact HB.out)⟩
      · replace c22 := Bool.eq_false_iff.mpr c22
        subst c22
        have H1 : (sapperref17_Check.l0 kj4 a1 a0_0 l0_1 (l0_1.length : Int) 0 a0_0 l0_1 l0_2 l0_3) = some r := by rw [if_neg (show ¬ (false = true) by decide)] at H; exact H
        clear H
        have H := H1
        clear H1
        have H' := Aside0.mk H
        clear H
        have hcz23_0 : wc.cell? ⟨gb179, 0, none⟩ = some (.int .i64 a0_0) := (blk_cell BK179.out 0).trans rfl
        have hcz23_1 : wc.cell? ⟨gb179, 1, none⟩ = some (.slice A0_1 l0_1.length c0_1) := (blk_cell BK179.out 1).trans rfl
        have hcz23_2 : wc.cell? ⟨gb179, 2, none⟩ = some (.slice A0_2 l0_2.length c0_2) := (blk_cell BK179.out 2).trans rfl
        have hcz23_3 : wc.cell? ⟨gb179, 3, none⟩ = some (.slice A0_3 l0_3.length c0_3) := (blk_cell BK179.out 3).trans rfl
        have hfz23_0 := blk_frozen BK179.out 0
        have hfz23_1 := blk_frozen BK179.out 1
        have hfz23_2 := blk_frozen BK179.out 2
        have hfz23_3 := blk_frozen BK179.out 3
        go_wp2
        go_loopg [10, 69] kj4 (fun kq v10 v69 w' => ∃ (x10_2 : Int) (x69_2 : Int), v10 = .int .i64 x10_2 ∧ v69 = .int .i64 x69_2 ∧ Aside0 (sapperref17_Check.l0 kq a1 x10_2 l0_1 (l0_1.length : Int) x69_2 a0_0 l0_1 l0_2 l0_3 = some r) ∧ Aside0 (kq ≤ kj4) ∧ Aside0 (w'.heap[gb179]? = some (.cells #[.int .i64 a0_0, (.slice A0_1 l0_1.length c0_1), (.slice A0_2 l0_2.length c0_2), (.slice A0_3 l0_3.length c0_3)] 45 (0, 0))) ∧ Aside0 (Below w.heap.size w w'))
        case atStart => exact ⟨(a0_0), (0), (by first | rfl | (simp; done) | (simp [*]; done)), (by first | rfl | (simp; done) | (simp [*]; done)), H', ⟨Nat.le_refl _⟩, ⟨by (with_reducible repeat (first | refine blk_drewN ?_ _ | refine blk_drew ?_ | refine blk_alloc ?_ _)); exact BK179.out⟩, ⟨by repeat (first | (with_reducible first | exact HB.out | apply below_alloc | apply pw_below_drewN | apply below_drew1 | refine below_set ?_ GE179.out) | exact HB.out)⟩⟩
        case round =>
          clear H'
          try clear c1
          try clear c2
          try clear p2
          try clear c4
          try clear p6
          try clear c9
          try clear c11
          try clear c13
          try clear c14
          try clear c14b0
          try clear c14b1
          try clear c15
          try clear c15b0
          try clear c15b1
          try clear c16
          try clear c16b0
          try clear c16b1
          try clear c21
          try clear c22
          try clear hcz18_0
          try clear hcz18_1
          try clear hcz18_2
          try clear hcz18_3
          try clear hcz19_0
          try clear hcz19_1
          try clear hcz19_2
          try clear hcz19_3
          try clear hcz20_0
          try clear hcz20_1
          try clear hcz20_2
          try clear hcz20_3
          try clear hcz21_0
          try clear hcz21_1
          try clear hcz21_2
          try clear hcz21_3
          try clear hcz23_0
          try clear hcz23_1
          try clear hcz23_2
          try clear hcz23_3
          try clear hcz7_0
          try clear hcz7_1
          try clear hcz7_2
          try clear hcz7_3
          try clear hfz18_0
          try clear hfz18_1
          try clear hfz18_2
          try clear hfz18_3
          try clear hfz19_0
          try clear hfz19_1
          try clear hfz19_2
          try clear hfz19_3
          try clear hfz20_0
          try clear hfz20_1
          try clear hfz20_2
          try clear hfz20_3
          try clear hfz21_0
          try clear hfz21_1
          try clear hfz21_2
          try clear hfz21_3
          try clear hfz23_0
          try clear hfz23_1
          try clear hfz23_2
          try clear hfz23_3
          try clear hfz7_0
          try clear hfz7_1
          try clear hfz7_2
          try clear hfz7_3
          try clear p2
          try clear p6
          obtain ⟨x10_2, x69_2, rfl, rfl, HA, HK2, BK179, HB⟩ := hrel
          cases gk with
          | zero => exact absurd HA.out (by simp [sapperref17_Check.l0])
          | succ k2 =>
            have H := HA.out
            clear HA
            simp only [sapperref17_Check.l0] at H
            by_cases c24 : x69_2 < (l0_1.length : Int)
            · rw [if_pos c24] at H
              have c24b0 : decide (x69_2 < (l0_1.length : Int)) = true := decide_eq_true c24
              clear c24
              by_cases c25 : 0 ≤ x69_2
              · rw [if_pos c25] at H
                have c25b0 : decide (0 ≤ x69_2) = true := decide_eq_true c25
                clear c25
                by_cases c26 : x69_2 < (l0_1.length : Int)
                · rw [if_pos c26] at H
                  have c26b0 : decide (x69_2 < (l0_1.length : Int)) = true := decide_eq_true c26
                  clear c26
                  have HC27 := Aside0.mk H
                  clear H
                  have p186 : 0 ≤ (x69_2 : Int) := of_decide_eq_true (by first | (with_reducible assumption) | assumption)
                  have q186 : x69_2 < (l0_1.length : Int) := of_decide_eq_true (by first | (with_reducible assumption) | assumption)
                  obtain ⟨ad186, e186, hx186_0, hx186_1, hx186_2⟩ := at_T81 HR0_1.out x69_2 p186 q186
                  cases e186
                  replace hx186_0 := (HB.out.cell (World.block_lt_of_cell? w _ hx186_0)).trans hx186_0
                  replace hx186_1 := (HB.out.cell (World.block_lt_of_cell? w _ hx186_1)).trans hx186_1
                  replace hx186_2 := (HB.out.cell (World.block_lt_of_cell? w _ hx186_2)).trans hx186_2
                  replace p186 := eq_true p186
                  replace q186 := eq_true q186
                  go_upto_region 8 with (first | ((with_reducible refine gate_dst (N := 12) rfl ?_); (try (refine gate_guard (by rfl) ?_; dsimp only)); refine box_event ?hg (N := 12) ?hd (cs := #[.int .i64 0, .int .i64 0, .int .i64 0]) (t := 81) ?hr ?_; (case hd => rfl); (case hg => rfl); (case hr => first | (go_simp; done) | (go_simp; rfl)); intro gb187 hg w28 hbox hb; have n0_ := Aside0.mk (blk_below (g := gb179) (o := .cells #[.int .i64 a0_0, .slice (some ad186) l0_1.length c0_1, .slice A0_2 l0_2.length c0_2, .slice A0_3 l0_3.length c0_3] 45 (0, 0)) (by (with_reducible repeat (first | refine blk_drewN ?_ _ | refine blk_drew ?_ | refine blk_alloc ?_ _)); exact BK179.out) hb); have n1_ := Aside0.mk (below_step (by repeat (first | (with_reducible first | exact HB.out | apply below_alloc | apply pw_below_drewN | apply below_drew1 | refine below_set ?_ GE179.out) | exact HB.out)) hb); have n2_ := Aside0.mk (hbox); have n3_ := Aside0.mk ((by rw [hg]; exact (below_size (by repeat (first | (with_reducible first | exact HB.out | apply below_alloc | apply pw_below_drewN | apply below_drew1 | refine below_set ?_ GE179.out) | exact HB.out))) : w.heap.size ≤ gb187)); have n4_ := Aside0.mk ((by rw [hg]; exact (below_size (by repeat (first | (with_reducible first | exact HB.out | apply below_alloc | apply pw_below_drewN | apply below_drew1 | refine below_set ?_ GE179.out) | exact HB.out))) : w.heap.size ≤ gb187)); have n5_ := Aside0.mk ((by rw [hg]; exact Nat.ne_of_lt (blk_lt (g := gb179) (o := .cells #[.int .i64 a0_0, .slice (some ad186) l0_1.length c0_1, .slice A0_2 l0_2.length c0_2, .slice A0_3 l0_3.length c0_3] 45 (0, 0)) (by (with_reducible repeat (first | refine blk_drewN ?_ _ | refine blk_drew ?_ | refine blk_alloc ?_ _)); exact BK179.out)) : gb179 ≠ gb187)); have n6_ := Aside0.mk ((by rw [hg]; exact Nat.ne_of_gt (blk_lt (g := gb179) (o := .cells #[.int .i64 a0_0, .slice (some ad186) l0_1.length c0_1, .slice A0_2 l0_2.length c0_2, .slice A0_3 l0_3.length c0_3] 45 (0, 0)) (by (with_reducible repeat (first | refine blk_drewN ?_ _ | refine blk_drew ?_ | refine blk_alloc ?_ _)); exact BK179.out)) : gb187 ≠ gb179)); clear BK179; clear HB; have BK179 := n0_; have HB := n1_; have BK187 := n2_; have GW187 := n3_; have GE187 := n4_; have NB179_187 := n5_; have NB187_179 := n6_; clear n0_ n1_ n2_ n3_ n4_ n5_ n6_; clear hb hbox hg; have hnb29 := NB187_179.out; have hnc29 := NB179_187.out; have hcz30_0 : w28.cell? ⟨gb187, 0, none⟩ = some (.int .i64 0) := (blk_cell BK187.out 0).trans rfl; have hcz30_1 : w28.cell? ⟨gb187, 1, none⟩ = some (.int .i64 0) := (blk_cell BK187.out 1).trans rfl; have hcz30_2 : w28.cell? ⟨gb187, 2, none⟩ = some (.int .i64 0) := (blk_cell BK187.out 2).trans rfl; have hfz30_0 := blk_frozen BK187.out 0; have hfz30_1 := blk_frozen BK187.out 1; have hfz30_2 := blk_frozen BK187.out 2))
                  (try simp only [Act.put, List.setIfInBounds_toArray, List.set_cons_zero, List.set_cons_succ])
                  go_cut [101] (fun v101 wc => ∃ (kq : Nat) (x101_26 : Bool), v101 = .bool x101_26 ∧ Aside0 (sapperref17_Check.j2 kq a1 x10_2 l0_1 (l0_1.length : Int) x69_2 x101_26 a0_0 l0_1 l0_2 l0_3 ((rd_T81 l0_1 x69_2).f0) ((rd_T81 l0_1 x69_2).f1) ((rd_T81 l0_1 x69_2).f2) = some r) ∧ Aside0 (kq ≤ k2) ∧ Aside0 (wc.heap[gb179]? = some (.cells #[.int .i64 a0_0, (.slice (some ad186) l0_1.length c0_1), (.slice A0_2 l0_2.length c0_2), (.slice A0_3 l0_3.length c0_3)] 45 (0, 0))) ∧ Aside0 (wc.heap[gb187]? = some (.cells #[.int .i64 ((rd_T81 l0_1 x69_2).f0), .int .i64 ((rd_T81 l0_1 x69_2).f1), .int .i64 ((rd_T81 l0_1 x69_2).f2)] 81 (0, 0))) ∧ Aside0 (Below w.heap.size w wc))
                  case first =>
                    have H := HC27.out
                    clear HC27
                    by_cases c31 : ((rd_T81 l0_1 x69_2).f0) = 0
                    · rw [if_pos c31] at H
                      have c31b0 : (((rd_T81 l0_1 x69_2).f0) == 0) = true := beq_iff_eq.mpr c31
                      have c31b1 : (((rd_T81 l0_1 x69_2).f0) != 0) = false := bne_eq_false_iff_eq.mpr c31
                      clear c31
                      (first | rw [c31b0] | (simp only [i64_w, i32_w]; rw [c31b0]) | skip)
                      by_cases c32 : ((rd_T81 l0_1 x69_2).f1) = 0
                      · rw [if_pos c32] at H
                        have c32b0 : (((rd_T81 l0_1 x69_2).f1) == 0) = true := beq_iff_eq.mpr c32
                        have c32b1 : (((rd_T81 l0_1 x69_2).f1) != 0) = false := bne_eq_false_iff_eq.mpr c32
                        clear c32
                        have H' := Aside0.mk H
                        clear H
                        have hnb33 := NB187_179.out
                        have hnc33 := NB179_187.out
                        have hcz34_0 : w28.cell? ⟨gb187, 0, none⟩ = some (.int .i64 0) := (blk_cell BK187.out 0).trans rfl
                        have hcz34_1 : w28.cell? ⟨gb187, 1, none⟩ = some (.int .i64 0) := (blk_cell BK187.out 1).trans rfl
                        have hcz34_2 : w28.cell? ⟨gb187, 2, none⟩ = some (.int .i64 0) := (blk_cell BK187.out 2).trans rfl
                        have hfz34_0 := blk_frozen BK187.out 0
                        have hfz34_1 := blk_frozen BK187.out 1
                        have hfz34_2 := blk_frozen BK187.out 2
                        go_wp2
                        go_meet
                        case rel => exact ⟨_, (true), (by first | rfl | (simp; done) | (simp [*]; done)), H', ⟨by have := HJ4.out; have := HK2.out; first | omega | exact Nat.le_refl _⟩, ⟨by (with_reducible repeat (first | refine blk_drewN ?_ _ | refine blk_drew ?_ | refine blk_alloc ?_ _)); refine blk_far ?_ NB179_187.out _; (with_reducible repeat (first | refine blk_drewN ?_ _ | refine blk_drew ?_ | refine blk_alloc ?_ _)); refine blk_far ?_ NB179_187.out _; (with_reducible repeat (first | refine blk_drewN ?_ _ | refine blk_drew ?_ | refine blk_alloc ?_ _)); refine blk_far ?_ NB179_187.out _; (with_reducible repeat (first | refine blk_drewN ?_ _ | refine blk_drew ?_ | refine blk_alloc ?_ _)); exact BK179.out⟩, ⟨by (with_reducible repeat (first | refine blk_drewN ?_ _ | refine blk_drew ?_ | refine blk_alloc ?_ _)); refine blk_put (cs := #[.int .i64 ((rd_T81 l0_1 x69_2).f0), .int .i64 ((rd_T81 l0_1 x69_2).f1), .int .i64 0]) ?_ 2 _ rfl; (with_reducible repeat (first | refine blk_drewN ?_ _ | refine blk_drew ?_ | refine blk_alloc ?_ _)); refine blk_put (cs := #[.int .i64 ((rd_T81 l0_1 x69_2).f0), .int .i64 0, .int .i64 0]) ?_ 1 _ rfl; (with_reducible repeat (first | refine blk_drewN ?_ _ | refine blk_drew ?_ | refine blk_alloc ?_ _)); refine blk_put (cs := #[.int .i64 0, .int .i64 0, .int .i64 0]) ?_ 0 _ rfl; (with_reducible repeat (first | refine blk_drewN ?_ _ | refine blk_drew ?_ | refine blk_alloc ?_ _)); exact BK187.out⟩, ⟨by repeat (first | (with_reducible first | exact HB.out | apply below_alloc | apply pw_below_drewN | apply below_drew1 | refine below_set ?_ GE179.out | refine below_set ?_ GE187.out) | exact HB.out)⟩⟩
                      · rw [if_neg c32] at H
                        have c32b0 : (((rd_T81 l0_1 x69_2).f1) == 0) = false := beq_eq_false_iff_ne.mpr c32
                        have c32b1 : (((rd_T81 l0_1 x69_2).f1) != 0) = true := bne_iff_ne.mpr c32
                        by_cases c35 : x69_2 = (wrap64 ((l0_1.length : Int) - 1))
                        · rw [if_pos c35] at H
                          have c35b0 : (x69_2 == (wrap64 ((l0_1.length : Int) - 1))) = true := beq_iff_eq.mpr c35
                          have c35b1 : (x69_2 != (wrap64 ((l0_1.length : Int) - 1))) = false := bne_eq_false_iff_eq.mpr c35
                          clear c35
                          by_cases c36 : ((rd_T81 l0_1 x69_2).f2) = 0
                          · rw [if_pos c36] at H
                            have c36b0 : (((rd_T81 l0_1 x69_2).f2) == 0) = true := beq_iff_eq.mpr c36
                            have c36b1 : (((rd_T81 l0_1 x69_2).f2) != 0) = false := bne_eq_false_iff_eq.mpr c36
                            clear c36
                            replace H := Option.bind_eq_some_iff.mp H
                            obtain ⟨t188, A370, H⟩ := H
                            replace H : (sapperref17_Check.j2 k2 a1 x10_2 l0_1 (l0_1.length : Int) x69_2 (!t188) a0_0 l0_1 l0_2 l0_3 ((rd_T81 l0_1 x69_2).f0) ((rd_T81 l0_1 x69_2).f1) ((rd_T81 l0_1 x69_2).f2)) = some r := H
                            have A37 := Aside0.mk A370
                            clear A370
                            have H' := Aside0.mk H
                            clear H
                            have hnb38 := NB187_179.out
                            have hnc38 := NB179_187.out
                            have hcz39_0 : w28.cell? ⟨gb187, 0, none⟩ = some (.int .i64 0) := (blk_cell BK187.out 0).trans rfl
                            have hcz39_1 : w28.cell? ⟨gb187, 1, none⟩ = some (.int .i64 0) := (blk_cell BK187.out 1).trans rfl
                            have hcz39_2 : w28.cell? ⟨gb187, 2, none⟩ = some (.int .i64 0) := (blk_cell BK187.out 2).trans rfl
                            have hfz39_0 := blk_frozen BK187.out 0
                            have hfz39_1 := blk_frozen BK187.out 1
                            have hfz39_2 := blk_frozen BK187.out 2
                            have hcz40_0 : w28.cell? ⟨gb179, 0, none⟩ = some (.int .i64 a0_0) := (blk_cell BK179.out 0).trans rfl
                            have hcz40_1 : w28.cell? ⟨gb179, 1, none⟩ = some (.slice (some ad186) l0_1.length c0_1) := (blk_cell BK179.out 1).trans rfl
                            have hcz40_2 : w28.cell? ⟨gb179, 2, none⟩ = some (.slice A0_2 l0_2.length c0_2) := (blk_cell BK179.out 2).trans rfl
                            have hcz40_3 : w28.cell? ⟨gb179, 3, none⟩ = some (.slice A0_3 l0_3.length c0_3) := (blk_cell BK179.out 3).trans rfl
                            have hfz40_0 := blk_frozen BK179.out 0
                            have hfz40_1 := blk_frozen BK179.out 1
                            have hfz40_2 := blk_frozen BK179.out 2
                            have hfz40_3 := blk_frozen BK179.out 3
                            go_wp2_with (first | (go_at_call 43; (with_reducible refine (sapperref17_in.calls ((rd_T81 l0_1 x69_2).f2) (-16777216) 16777216 t188 _ A37.out).mono ?_); rintro e w' ⟨rfl, ⟨nd, rfl⟩⟩))
                            go_meet
                            case rel => exact ⟨_, (!t188), (by first | rfl | (simp; done) | (simp [*]; done)), H', ⟨by have := HJ4.out; have := HK2.out; first | omega | exact Nat.le_refl _⟩, ⟨by (with_reducible repeat (first | refine blk_drewN ?_ _ | refine blk_drew ?_ | refine blk_alloc ?_ _)); refine blk_far ?_ NB179_187.out _; (with_reducible repeat (first | refine blk_drewN ?_ _ | refine blk_drew ?_ | refine blk_alloc ?_ _)); refine blk_far ?_ NB179_187.out _; (with_reducible repeat (first | refine blk_drewN ?_ _ | refine blk_drew ?_ | refine blk_alloc ?_ _)); refine blk_far ?_ NB179_187.out _; (with_reducible repeat (first | refine blk_drewN ?_ _ | refine blk_drew ?_ | refine blk_alloc ?_ _)); exact BK179.out⟩, ⟨by (with_reducible repeat (first | refine blk_drewN ?_ _ | refine blk_drew ?_ | refine blk_alloc ?_ _)); refine blk_put (cs := #[.int .i64 ((rd_T81 l0_1 x69_2).f0), .int .i64 ((rd_T81 l0_1 x69_2).f1), .int .i64 0]) ?_ 2 _ rfl; (with_reducible repeat (first | refine blk_drewN ?_ _ | refine blk_drew ?_ | refine blk_alloc ?_ _)); refine blk_put (cs := #[.int .i64 ((rd_T81 l0_1 x69_2).f0), .int .i64 0, .int .i64 0]) ?_ 1 _ rfl; (with_reducible repeat (first | refine blk_drewN ?_ _ | refine blk_drew ?_ | refine blk_alloc ?_ _)); refine blk_put (cs := #[.int .i64 0, .int .i64 0, .int .i64 0]) ?_ 0 _ rfl; (with_reducible repeat (first | refine blk_drewN ?_ _ | refine blk_drew ?_ | refine blk_alloc ?_ _)); exact BK187.out⟩, ⟨by repeat (first | (with_reducible first | exact HB.out | apply below_alloc | apply pw_below_drewN | apply below_drew1 | refine below_set ?_ GE179.out | refine below_set ?_ GE187.out) | exact HB.out)⟩⟩
                          · rw [if_neg c36] at H
                            have c36b0 : (((rd_T81 l0_1 x69_2).f2) == 0) = false := beq_eq_false_iff_ne.mpr c36
                            have c36b1 : (((rd_T81 l0_1 x69_2).f2) != 0) = true := bne_iff_ne.mpr c36
                            have H' := Aside0.mk H
                            clear H
                            have hnb41 := NB187_179.out
                            have hnc41 := NB179_187.out
                            have hcz42_0 : w28.cell? ⟨gb187, 0, none⟩ = some (.int .i64 0) := (blk_cell BK187.out 0).trans rfl
                            have hcz42_1 : w28.cell? ⟨gb187, 1, none⟩ = some (.int .i64 0) := (blk_cell BK187.out 1).trans rfl
                            have hcz42_2 : w28.cell? ⟨gb187, 2, none⟩ = some (.int .i64 0) := (blk_cell BK187.out 2).trans rfl
                            have hfz42_0 := blk_frozen BK187.out 0
                            have hfz42_1 := blk_frozen BK187.out 1
                            have hfz42_2 := blk_frozen BK187.out 2
                            have hcz43_0 : w28.cell? ⟨gb179, 0, none⟩ = some (.int .i64 a0_0) := (blk_cell BK179.out 0).trans rfl
                            have hcz43_1 : w28.cell? ⟨gb179, 1, none⟩ = some (.slice (some ad186) l0_1.length c0_1) := (blk_cell BK179.out 1).trans rfl
                            have hcz43_2 : w28.cell? ⟨gb179, 2, none⟩ = some (.slice A0_2 l0_2.length c0_2) := (blk_cell BK179.out 2).trans rfl
                            have hcz43_3 : w28.cell? ⟨gb179, 3, none⟩ = some (.slice A0_3 l0_3.length c0_3) := (blk_cell BK179.out 3).trans rfl
                            have hfz43_0 := blk_frozen BK179.out 0
                            have hfz43_1 := blk_frozen BK179.out 1
                            have hfz43_2 := blk_frozen BK179.out 2
                            have hfz43_3 := blk_frozen BK179.out 3
                            go_wp2
                            go_meet
                            case rel => exact ⟨_, (true), (by first | rfl | (simp; done) | (simp [*]; done)), H', ⟨by have := HJ4.out; have := HK2.out; first | omega | exact Nat.le_refl _⟩, ⟨by (with_reducible repeat (first | refine blk_drewN ?_ _ | refine blk_drew ?_ | refine blk_alloc ?_ _)); refine blk_far ?_ NB179_187.out _; (with_reducible repeat (first | refine blk_drewN ?_ _ | refine blk_drew ?_ | refine blk_alloc ?_ _)); refine blk_far ?_ NB179_187.out _; (with_reducible repeat (first | refine blk_drewN ?_ _ | refine blk_drew ?_ | refine blk_alloc ?_ _)); refine blk_far ?_ NB179_187.out _; (with_reducible repeat (first | refine blk_drewN ?_ _ | refine blk_drew ?_ | refine blk_alloc ?_ _)); exact BK179.out⟩, ⟨by (with_reducible repeat (first | refine blk_drewN ?_ _ | refine blk_drew ?_ | refine blk_alloc ?_ _)); refine blk_put (cs := #[.int .i64 ((rd_T81 l0_1 x69_2).f0), .int .i64 ((rd_T81 l0_1 x69_2).f1), .int .i64 0]) ?_ 2 _ rfl; (with_reducible repeat (first | refine blk_drewN ?_ _ | refine blk_drew ?_ | refine blk_alloc ?_ _)); refine blk_put (cs := #[.int .i64 ((rd_T81 l0_1 x69_2).f0), .int .i64 0, .int .i64 0]) ?_ 1 _ rfl; (with_reducible repeat (first | refine blk_drewN ?_ _ | refine blk_drew ?_ | refine blk_alloc ?_ _)); refine blk_put (cs := #[.int .i64 0, .int .i64 0, .int .i64 0]) ?_ 0 _ rfl; (with_reducible repeat (first | refine blk_drewN ?_ _ | refine blk_drew ?_ | refine blk_alloc ?_ _)); exact BK187.out⟩, ⟨by repeat (first | (with_reducible first | exact HB.out | apply below_alloc | apply pw_below_drewN | apply below_drew1 | refine below_set ?_ GE179.out | refine below_set ?_ GE187.out) | exact HB.out)⟩⟩
                        · rw [if_neg c35] at H
                          have c35b0 : (x69_2 == (wrap64 ((l0_1.length : Int) - 1))) = false := beq_eq_false_iff_ne.mpr c35
                          have c35b1 : (x69_2 != (wrap64 ((l0_1.length : Int) - 1))) = true := bne_iff_ne.mpr c35
                          replace H := Option.bind_eq_some_iff.mp H
                          obtain ⟨t189, A440, H⟩ := H
                          replace H : (sapperref17_Check.j2 k2 a1 x10_2 l0_1 (l0_1.length : Int) x69_2 (!t189) a0_0 l0_1 l0_2 l0_3 ((rd_T81 l0_1 x69_2).f0) ((rd_T81 l0_1 x69_2).f1) ((rd_T81 l0_1 x69_2).f2)) = some r := H
                          have A44 := Aside0.mk A440
                          clear A440
                          have H' := Aside0.mk H
                          clear H
                          have hnb45 := NB187_179.out
                          have hnc45 := NB179_187.out
                          have hcz46_0 : w28.cell? ⟨gb187, 0, none⟩ = some (.int .i64 0) := (blk_cell BK187.out 0).trans rfl
                          have hcz46_1 : w28.cell? ⟨gb187, 1, none⟩ = some (.int .i64 0) := (blk_cell BK187.out 1).trans rfl
                          have hcz46_2 : w28.cell? ⟨gb187, 2, none⟩ = some (.int .i64 0) := (blk_cell BK187.out 2).trans rfl
                          have hfz46_0 := blk_frozen BK187.out 0
                          have hfz46_1 := blk_frozen BK187.out 1
                          have hfz46_2 := blk_frozen BK187.out 2
                          have hcz47_0 : w28.cell? ⟨gb179, 0, none⟩ = some (.int .i64 a0_0) := (blk_cell BK179.out 0).trans rfl
                          have hcz47_1 : w28.cell? ⟨gb179, 1, none⟩ = some (.slice (some ad186) l0_1.length c0_1) := (blk_cell BK179.out 1).trans rfl
                          have hcz47_2 : w28.cell? ⟨gb179, 2, none⟩ = some (.slice A0_2 l0_2.length c0_2) := (blk_cell BK179.out 2).trans rfl
                          have hcz47_3 : w28.cell? ⟨gb179, 3, none⟩ = some (.slice A0_3 l0_3.length c0_3) := (blk_cell BK179.out 3).trans rfl
                          have hfz47_0 := blk_frozen BK179.out 0
                          have hfz47_1 := blk_frozen BK179.out 1
                          have hfz47_2 := blk_frozen BK179.out 2
                          have hfz47_3 := blk_frozen BK179.out 3
                          go_wp2_with (first | (go_at_call 43; (with_reducible refine (sapperref17_in.calls ((rd_T81 l0_1 x69_2).f2) (-16777216) 16777216 t189 _ A44.out).mono ?_); rintro e w' ⟨rfl, ⟨nd, rfl⟩⟩))
                          go_meet
                          case rel => exact ⟨_, (!t189), (by first | rfl | (simp; done) | (simp [*]; done)), H', ⟨by have := HJ4.out; have := HK2.out; first | omega | exact Nat.le_refl _⟩, ⟨by (with_reducible repeat (first | refine blk_drewN ?_ _ | refine blk_drew ?_ | refine blk_alloc ?_ _)); refine blk_far ?_ NB179_187.out _; (with_reducible repeat (first | refine blk_drewN ?_ _ | refine blk_drew ?_ | refine blk_alloc ?_ _)); refine blk_far ?_ NB179_187.out _; (with_reducible repeat (first | refine blk_drewN ?_ _ | refine blk_drew ?_ | refine blk_alloc ?_ _)); refine blk_far ?_ NB179_187.out _; (with_reducible repeat (first | refine blk_drewN ?_ _ | refine blk_drew ?_ | refine blk_alloc ?_ _)); exact BK179.out⟩, ⟨by (with_reducible repeat (first | refine blk_drewN ?_ _ | refine blk_drew ?_ | refine blk_alloc ?_ _)); refine blk_put (cs := #[.int .i64 ((rd_T81 l0_1 x69_2).f0), .int .i64 ((rd_T81 l0_1 x69_2).f1), .int .i64 0]) ?_ 2 _ rfl; (with_reducible repeat (first | refine blk_drewN ?_ _ | refine blk_drew ?_ | refine blk_alloc ?_ _)); refine blk_put (cs := #[.int .i64 ((rd_T81 l0_1 x69_2).f0), .int .i64 0, .int .i64 0]) ?_ 1 _ rfl; (with_reducible repeat (first | refine blk_drewN ?_ _ | refine blk_drew ?_ | refine blk_alloc ?_ _)); refine blk_put (cs := #[.int .i64 0, .int .i64 0, .int .i64 0]) ?_ 0 _ rfl; (with_reducible repeat (first | refine blk_drewN ?_ _ | refine blk_drew ?_ | refine blk_alloc ?_ _)); exact BK187.out⟩, ⟨by repeat (first | (with_reducible first | exact HB.out | apply below_alloc | apply pw_below_drewN | apply below_drew1 | refine below_set ?_ GE179.out | refine below_set ?_ GE187.out) | exact HB.out)⟩⟩
                    · rw [if_neg c31] at H
                      have c31b0 : (((rd_T81 l0_1 x69_2).f0) == 0) = false := beq_eq_false_iff_ne.mpr c31
                      have c31b1 : (((rd_T81 l0_1 x69_2).f0) != 0) = true := bne_iff_ne.mpr c31
                      (first | rw [c31b0] | (simp only [i64_w, i32_w]; rw [c31b0]) | skip)
                      by_cases c48 : x69_2 = (wrap64 ((l0_1.length : Int) - 1))
                      · rw [if_pos c48] at H
                        have c48b0 : (x69_2 == (wrap64 ((l0_1.length : Int) - 1))) = true := beq_iff_eq.mpr c48
                        have c48b1 : (x69_2 != (wrap64 ((l0_1.length : Int) - 1))) = false := bne_eq_false_iff_eq.mpr c48
                        clear c48
                        by_cases c49 : ((rd_T81 l0_1 x69_2).f2) = 0
                        · rw [if_pos c49] at H
                          have c49b0 : (((rd_T81 l0_1 x69_2).f2) == 0) = true := beq_iff_eq.mpr c49
                          have c49b1 : (((rd_T81 l0_1 x69_2).f2) != 0) = false := bne_eq_false_iff_eq.mpr c49
                          clear c49
                          replace H := Option.bind_eq_some_iff.mp H
                          obtain ⟨t190, A500, H⟩ := H
                          replace H : (sapperref17_Check.j2 k2 a1 x10_2 l0_1 (l0_1.length : Int) x69_2 (!t190) a0_0 l0_1 l0_2 l0_3 ((rd_T81 l0_1 x69_2).f0) ((rd_T81 l0_1 x69_2).f1) ((rd_T81 l0_1 x69_2).f2)) = some r := H
                          have A50 := Aside0.mk A500
                          clear A500
                          have H' := Aside0.mk H
                          clear H
                          have hnb51 := NB187_179.out
                          have hnc51 := NB179_187.out
                          have hcz52_0 : w28.cell? ⟨gb187, 0, none⟩ = some (.int .i64 0) := (blk_cell BK187.out 0).trans rfl
                          have hcz52_1 : w28.cell? ⟨gb187, 1, none⟩ = some (.int .i64 0) := (blk_cell BK187.out 1).trans rfl
                          have hcz52_2 : w28.cell? ⟨gb187, 2, none⟩ = some (.int .i64 0) := (blk_cell BK187.out 2).trans rfl
                          have hfz52_0 := blk_frozen BK187.out 0
                          have hfz52_1 := blk_frozen BK187.out 1
                          have hfz52_2 := blk_frozen BK187.out 2
                          have hcz53_0 : w28.cell? ⟨gb179, 0, none⟩ = some (.int .i64 a0_0) := (blk_cell BK179.out 0).trans rfl
                          have hcz53_1 : w28.cell? ⟨gb179, 1, none⟩ = some (.slice (some ad186) l0_1.length c0_1) := (blk_cell BK179.out 1).trans rfl
                          have hcz53_2 : w28.cell? ⟨gb179, 2, none⟩ = some (.slice A0_2 l0_2.length c0_2) := (blk_cell BK179.out 2).trans rfl
                          have hcz53_3 : w28.cell? ⟨gb179, 3, none⟩ = some (.slice A0_3 l0_3.length c0_3) := (blk_cell BK179.out 3).trans rfl
                          have hfz53_0 := blk_frozen BK179.out 0
                          have hfz53_1 := blk_frozen BK179.out 1
                          have hfz53_2 := blk_frozen BK179.out 2
                          have hfz53_3 := blk_frozen BK179.out 3
                          go_wp2_with (first | (go_at_call 43; (with_reducible refine (sapperref17_in.calls ((rd_T81 l0_1 x69_2).f2) (-16777216) 16777216 t190 _ A50.out).mono ?_); rintro e w' ⟨rfl, ⟨nd, rfl⟩⟩))
                          go_meet
                          case rel => exact ⟨_, (!t190), (by first | rfl | (simp; done) | (simp [*]; done)), H', ⟨by have := HJ4.out; have := HK2.out; first | omega | exact Nat.le_refl _⟩, ⟨by (with_reducible repeat (first | refine blk_drewN ?_ _ | refine blk_drew ?_ | refine blk_alloc ?_ _)); refine blk_far ?_ NB179_187.out _; (with_reducible repeat (first | refine blk_drewN ?_ _ | refine blk_drew ?_ | refine blk_alloc ?_ _)); refine blk_far ?_ NB179_187.out _; (with_reducible repeat (first | refine blk_drewN ?_ _ | refine blk_drew ?_ | refine blk_alloc ?_ _)); refine blk_far ?_ NB179_187.out _; (with_reducible repeat (first | refine blk_drewN ?_ _ | refine blk_drew ?_ | refine blk_alloc ?_ _)); exact BK179.out⟩, ⟨by (with_reducible repeat (first | refine blk_drewN ?_ _ | refine blk_drew ?_ | refine blk_alloc ?_ _)); refine blk_put (cs := #[.int .i64 ((rd_T81 l0_1 x69_2).f0), .int .i64 ((rd_T81 l0_1 x69_2).f1), .int .i64 0]) ?_ 2 _ rfl; (with_reducible repeat (first | refine blk_drewN ?_ _ | refine blk_drew ?_ | refine blk_alloc ?_ _)); refine blk_put (cs := #[.int .i64 ((rd_T81 l0_1 x69_2).f0), .int .i64 0, .int .i64 0]) ?_ 1 _ rfl; (with_reducible repeat (first | refine blk_drewN ?_ _ | refine blk_drew ?_ | refine blk_alloc ?_ _)); refine blk_put (cs := #[.int .i64 0, .int .i64 0, .int .i64 0]) ?_ 0 _ rfl; (with_reducible repeat (first | refine blk_drewN ?_ _ | refine blk_drew ?_ | refine blk_alloc ?_ _)); exact BK187.out⟩, ⟨by repeat (first | (with_reducible first | exact HB.out | apply below_alloc | apply pw_below_drewN | apply below_drew1 | refine below_set ?_ GE179.out | refine below_set ?_ GE187.out) | exact HB.out)⟩⟩
                        · rw [if_neg c49] at H
                          have c49b0 : (((rd_T81 l0_1 x69_2).f2) == 0) = false := beq_eq_false_iff_ne.mpr c49
                          have c49b1 : (((rd_T81 l0_1 x69_2).f2) != 0) = true := bne_iff_ne.mpr c49
                          have H' := Aside0.mk H
                          clear H
                          have hnb54 := NB187_179.out
                          have hnc54 := NB179_187.out
                          have hcz55_0 : w28.cell? ⟨gb187, 0, none⟩ = some (.int .i64 0) := (blk_cell BK187.out 0).trans rfl
                          have hcz55_1 : w28.cell? ⟨gb187, 1, none⟩ = some (.int .i64 0) := (blk_cell BK187.out 1).trans rfl
                          have hcz55_2 : w28.cell? ⟨gb187, 2, none⟩ = some (.int .i64 0) := (blk_cell BK187.out 2).trans rfl
                          have hfz55_0 := blk_frozen BK187.out 0
                          have hfz55_1 := blk_frozen BK187.out 1
                          have hfz55_2 := blk_frozen BK187.out 2
                          have hcz56_0 : w28.cell? ⟨gb179, 0, none⟩ = some (.int .i64 a0_0) := (blk_cell BK179.out 0).trans rfl
                          have hcz56_1 : w28.cell? ⟨gb179, 1, none⟩ = some (.slice (some ad186) l0_1.length c0_1) := (blk_cell BK179.out 1).trans rfl
                          have hcz56_2 : w28.cell? ⟨gb179, 2, none⟩ = some (.slice A0_2 l0_2.length c0_2) := (blk_cell BK179.out 2).trans rfl
                          have hcz56_3 : w28.cell? ⟨gb179, 3, none⟩ = some (.slice A0_3 l0_3.length c0_3) := (blk_cell BK179.out 3).trans rfl
                          have hfz56_0 := blk_frozen BK179.out 0
                          have hfz56_1 := blk_frozen BK179.out 1
                          have hfz56_2 := blk_frozen BK179.out 2
                          have hfz56_3 := blk_frozen BK179.out 3
                          go_wp2
                          go_meet
                          case rel => exact ⟨_, (true), (by first | rfl | (simp; done) | (simp [*]; done)), H', ⟨by have := HJ4.out; have := HK2.out; first | omega | exact Nat.le_refl _⟩, ⟨by (with_reducible repeat (first | refine blk_drewN ?_ _ | refine blk_drew ?_ | refine blk_alloc ?_ _)); refine blk_far ?_ NB179_187.out _; (with_reducible repeat (first | refine blk_drewN ?_ _ | refine blk_drew ?_ | refine blk_alloc ?_ _)); refine blk_far ?_ NB179_187.out _; (with_reducible repeat (first | refine blk_drewN ?_ _ | refine blk_drew ?_ | refine blk_alloc ?_ _)); refine blk_far ?_ NB179_187.out _; (with_reducible repeat (first | refine blk_drewN ?_ _ | refine blk_drew ?_ | refine blk_alloc ?_ _)); exact BK179.out⟩, ⟨by (with_reducible repeat (first | refine blk_drewN ?_ _ | refine blk_drew ?_ | refine blk_alloc ?_ _)); refine blk_put (cs := #[.int .i64 ((rd_T81 l0_1 x69_2).f0), .int .i64 ((rd_T81 l0_1 x69_2).f1), .int .i64 0]) ?_ 2 _ rfl; (with_reducible repeat (first | refine blk_drewN ?_ _ | refine blk_drew ?_ | refine blk_alloc ?_ _)); refine blk_put (cs := #[.int .i64 ((rd_T81 l0_1 x69_2).f0), .int .i64 0, .int .i64 0]) ?_ 1 _ rfl; (with_reducible repeat (first | refine blk_drewN ?_ _ | refine blk_drew ?_ | refine blk_alloc ?_ _)); refine blk_put (cs := #[.int .i64 0, .int .i64 0, .int .i64 0]) ?_ 0 _ rfl; (with_reducible repeat (first | refine blk_drewN ?_ _ | refine blk_drew ?_ | refine blk_alloc ?_ _)); exact BK187.out⟩, ⟨by repeat (first | (with_reducible first | exact HB.out | apply below_alloc | apply pw_below_drewN | apply below_drew1 | refine below_set ?_ GE179.out | refine below_set ?_ GE187.out) | exact HB.out)⟩⟩
                      · rw [if_neg c48] at H
                        have c48b0 : (x69_2 == (wrap64 ((l0_1.length : Int) - 1))) = false := beq_eq_false_iff_ne.mpr c48
                        have c48b1 : (x69_2 != (wrap64 ((l0_1.length : Int) - 1))) = true := bne_iff_ne.mpr c48
                        replace H := Option.bind_eq_some_iff.mp H
                        obtain ⟨t191, A570, H⟩ := H
                        replace H : (sapperref17_Check.j2 k2 a1 x10_2 l0_1 (l0_1.length : Int) x69_2 (!t191) a0_0 l0_1 l0_2 l0_3 ((rd_T81 l0_1 x69_2).f0) ((rd_T81 l0_1 x69_2).f1) ((rd_T81 l0_1 x69_2).f2)) = some r := H
                        have A57 := Aside0.mk A570
                        clear A570
                        have H' := Aside0.mk H
                        clear H
                        have hnb58 := NB187_179.out
                        have hnc58 := NB179_187.out
                        have hcz59_0 : w28.cell? ⟨gb187, 0, none⟩ = some (.int .i64 0) := (blk_cell BK187.out 0).trans rfl
                        have hcz59_1 : w28.cell? ⟨gb187, 1, none⟩ = some (.int .i64 0) := (blk_cell BK187.out 1).trans rfl
                        have hcz59_2 : w28.cell? ⟨gb187, 2, none⟩ = some (.int .i64 0) := (blk_cell BK187.out 2).trans rfl
                        have hfz59_0 := blk_frozen BK187.out 0
                        have hfz59_1 := blk_frozen BK187.out 1
                        have hfz59_2 := blk_frozen BK187.out 2
                        have hcz60_0 : w28.cell? ⟨gb179, 0, none⟩ = some (.int .i64 a0_0) := (blk_cell BK179.out 0).trans rfl
                        have hcz60_1 : w28.cell? ⟨gb179, 1, none⟩ = some (.slice (some ad186) l0_1.length c0_1) := (blk_cell BK179.out 1).trans rfl
                        have hcz60_2 : w28.cell? ⟨gb179, 2, none⟩ = some (.slice A0_2 l0_2.length c0_2) := (blk_cell BK179.out 2).trans rfl
                        have hcz60_3 : w28.cell? ⟨gb179, 3, none⟩ = some (.slice A0_3 l0_3.length c0_3) := (blk_cell BK179.out 3).trans rfl
                        have hfz60_0 := blk_frozen BK179.out 0
                        have hfz60_1 := blk_frozen BK179.out 1
                        have hfz60_2 := blk_frozen BK179.out 2
                        have hfz60_3 := blk_frozen BK179.out 3
                        go_wp2_with (first | (go_at_call 43; (with_reducible refine (sapperref17_in.calls ((rd_T81 l0_1 x69_2).f2) (-16777216) 16777216 t191 _ A57.out).mono ?_); rintro e w' ⟨rfl, ⟨nd, rfl⟩⟩))
                        go_meet
                        case rel => exact ⟨_, (!t191), (by first | rfl | (simp; done) | (simp [*]; done)), H', ⟨by have := HJ4.out; have := HK2.out; first | omega | exact Nat.le_refl _⟩, ⟨by (with_reducible repeat (first | refine blk_drewN ?_ _ | refine blk_drew ?_ | refine blk_alloc ?_ _)); refine blk_far ?_ NB179_187.out _; (with_reducible repeat (first | refine blk_drewN ?_ _ | refine blk_drew ?_ | refine blk_alloc ?_ _)); refine blk_far ?_ NB179_187.out _; (with_reducible repeat (first | refine blk_drewN ?_ _ | refine blk_drew ?_ | refine blk_alloc ?_ _)); refine blk_far ?_ NB179_187.out _; (with_reducible repeat (first | refine blk_drewN ?_ _ | refine blk_drew ?_ | refine blk_alloc ?_ _)); exact BK179.out⟩, ⟨by (with_reducible repeat (first | refine blk_drewN ?_ _ | refine blk_drew ?_ | refine blk_alloc ?_ _)); refine blk_put (cs := #[.int .i64 ((rd_T81 l0_1 x69_2).f0), .int .i64 ((rd_T81 l0_1 x69_2).f1), .int .i64 0]) ?_ 2 _ rfl; (with_reducible repeat (first | refine blk_drewN ?_ _ | refine blk_drew ?_ | refine blk_alloc ?_ _)); refine blk_put (cs := #[.int .i64 ((rd_T81 l0_1 x69_2).f0), .int .i64 0, .int .i64 0]) ?_ 1 _ rfl; (with_reducible repeat (first | refine blk_drewN ?_ _ | refine blk_drew ?_ | refine blk_alloc ?_ _)); refine blk_put (cs := #[.int .i64 0, .int .i64 0, .int .i64 0]) ?_ 0 _ rfl; (with_reducible repeat (first | refine blk_drewN ?_ _ | refine blk_drew ?_ | refine blk_alloc ?_ _)); exact BK187.out⟩, ⟨by repeat (first | (with_reducible first | exact HB.out | apply below_alloc | apply pw_below_drewN | apply below_drew1 | refine below_set ?_ GE179.out | refine below_set ?_ GE187.out) | exact HB.out)⟩⟩
                  case rest =>
                    clear HC27
                    try clear c1
                    try clear p1
                    try clear q1
                    try clear hx1
                    try clear c2
                    try clear p2
                    try clear c3
                    try clear c4
                    try clear c5
                    try clear p6
                    try clear c9
                    try clear c11
                    try clear c13
                    try clear c14
                    try clear c14b0
                    try clear c14b1
                    try clear c15
                    try clear c15b0
                    try clear c15b1
                    try clear c16
                    try clear c16b0
                    try clear c16b1
                    try clear p18
                    try clear q18
                    try clear hx18
                    try clear c21
                    try clear c22
                    try clear c24
                    try clear c24b0
                    try clear c25
                    try clear c25b0
                    try clear c26
                    try clear c26b0
                    try clear c29
                    try clear c31
                    try clear c31b0
                    try clear c31b1
                    try clear c32
                    try clear c32b0
                    try clear c32b1
                    try clear c33
                    try clear c35
                    try clear c35b0
                    try clear c35b1
                    try clear c36
                    try clear c36b0
                    try clear c36b1
                    try clear c38
                    try clear c41
                    try clear c45
                    try clear c48
                    try clear c48b0
                    try clear c48b1
                    try clear c49
                    try clear c49b0
                    try clear c49b1
                    try clear c51
                    try clear c54
                    try clear c58
                    try clear hcz18_0
                    try clear hcz18_1
                    try clear hcz18_2
                    try clear hcz18_3
                    try clear hcz19_0
                    try clear hcz19_1
                    try clear hcz19_2
                    try clear hcz19_3
                    try clear hcz20_0
                    try clear hcz20_1
                    try clear hcz20_2
                    try clear hcz20_3
                    try clear hcz21_0
                    try clear hcz21_1
                    try clear hcz21_2
                    try clear hcz21_3
                    try clear hcz23_0
                    try clear hcz23_1
                    try clear hcz23_2
                    try clear hcz23_3
                    try clear hcz30_0
                    try clear hcz30_1
                    try clear hcz30_2
                    try clear hcz34_0
                    try clear hcz34_1
                    try clear hcz34_2
                    try clear hcz39_0
                    try clear hcz39_1
                    try clear hcz39_2
                    try clear hcz40_0
                    try clear hcz40_1
                    try clear hcz40_2
                    try clear hcz40_3
                    try clear hcz42_0
                    try clear hcz42_1
                    try clear hcz42_2
                    try clear hcz43_0
                    try clear hcz43_1
                    try clear hcz43_2
                    try clear hcz43_3
                    try clear hcz46_0
                    try clear hcz46_1
                    try clear hcz46_2
                    try clear hcz47_0
                    try clear hcz47_1
                    try clear hcz47_2
                    try clear hcz47_3
                    try clear hcz52_0
                    try clear hcz52_1
                    try clear hcz52_2
                    try clear hcz53_0
                    try clear hcz53_1
                    try clear hcz53_2
                    try clear hcz53_3
                    try clear hcz55_0
                    try clear hcz55_1
                    try clear hcz55_2
                    try clear hcz56_0
                    try clear hcz56_1
                    try clear hcz56_2
                    try clear hcz56_3
                    try clear hcz59_0
                    try clear hcz59_1
                    try clear hcz59_2
                    try clear hcz60_0
                    try clear hcz60_1
                    try clear hcz60_2
                    try clear hcz60_3
                    try clear hcz7_0
                    try clear hcz7_1
                    try clear hcz7_2
                    try clear hcz7_3
                    try clear hfz18_0
                    try clear hfz18_1
                    try clear hfz18_2
                    try clear hfz18_3
                    try clear hfz19_0
                    try clear hfz19_1
                    try clear hfz19_2
                    try clear hfz19_3
                    try clear hfz20_0
                    try clear hfz20_1
                    try clear hfz20_2
                    try clear hfz20_3
                    try clear hfz21_0
                    try clear hfz21_1
                    try clear hfz21_2
                    try clear hfz21_3
                    try clear hfz23_0
                    try clear hfz23_1
                    try clear hfz23_2
                    try clear hfz23_3
                    try clear hfz30_0
                    try clear hfz30_1
                    try clear hfz30_2
                    try clear hfz34_0
                    try clear hfz34_1
                    try clear hfz34_2
                    try clear hfz39_0
                    try clear hfz39_1
                    try clear hfz39_2
                    try clear hfz40_0
                    try clear hfz40_1
                    try clear hfz40_2
                    try clear hfz40_3
                    try clear hfz42_0
                    try clear hfz42_1
                    try clear hfz42_2
                    try clear hfz43_0
                    try clear hfz43_1
                    try clear hfz43_2
                    try clear hfz43_3
                    try clear hfz46_0
                    try clear hfz46_1
                    try clear hfz46_2
                    try clear hfz47_0
                    try clear hfz47_1
                    try clear hfz47_2
                    try clear hfz47_3
                    try clear hfz52_0
                    try clear hfz52_1
                    try clear hfz52_2
                    try clear hfz53_0
                    try clear hfz53_1
                    try clear hfz53_2
                    try clear hfz53_3
                    try clear hfz55_0
                    try clear hfz55_1
                    try clear hfz55_2
                    try clear hfz56_0
                    try clear hfz56_1
                    try clear hfz56_2
                    try clear hfz56_3
                    try clear hfz59_0
                    try clear hfz59_1
                    try clear hfz59_2
                    try clear hfz60_0
                    try clear hfz60_1
                    try clear hfz60_2
                    try clear hfz60_3
                    try clear hfz7_0
                    try clear hfz7_1
                    try clear hfz7_2
                    try clear hfz7_3
                    try clear hx186_0
                    try clear hx186_1
                    try clear hx186_2
                    try clear p186
                    try clear p2
                    try clear p6
                    try clear q186
                    obtain ⟨kq, x101_26, rfl, HA, HJ26, BK179, BK187, HB⟩ := hcut
                    cases kq with
                    | zero => exact absurd HA.out (by simp [sapperref17_Check.j2])
                    | succ kj26 =>
                      have H := HA.out
                      clear HA
                      simp only [sapperref17_Check.j2] at H
                      by_cases c61 : x101_26 = true
                      · subst c61
                        have H1 : (some 171) = some r := by rw [if_pos rfl] at H; exact H
                        clear H
                        have H := H1
                        clear H1
                        obtain rfl := Option.some.inj H
                        go_wp2
                        go_ret
                        exact ⟨by first | rfl | (simp [errW_none, errW_some] <;> rfl) | (simp [*, errW_none, errW_some] <;> rfl), by repeat (first | (with_reducible first | exact HB.out | apply below_alloc | apply pw_below_drewN | apply below_drew1 | refine below_set ?_ GE179.out | refine below_set ?_ GE187.out) | exact HB.out)⟩
                      · replace c61 := Bool.eq_false_iff.mpr c61
                        subst c61
                        have H1 : ((sapperref17_in.f (wrap64 (x10_2 + ((rd_T81 l0_1 x69_2).f0))) 0 a1).bind fun t192 => (if t192 = true then ((sapperref17_in.f (wrap64 ((wrap64 (x10_2 + ((rd_T81 l0_1 x69_2).f0))) + ((rd_T81 l0_1 x69_2).f2))) 0 a1).bind fun t193 => (if t193 = true then (sapperref17_Check.l0 kj26 a1 (wrap64 (x10_2 + (wrap64 (((rd_T81 l0_1 x69_2).f0) + ((rd_T81 l0_1 x69_2).f2))))) l0_1 (l0_1.length : Int) (wrap64 (x69_2 + 1)) a0_0 l0_1 l0_2 l0_3) else (some 171))) else (some 171))) = some r := by rw [if_neg (show ¬ (false = true) by decide)] at H; exact H
                        clear H
                        have H := H1
                        clear H1
                        replace H := Option.bind_eq_some_iff.mp H
                        obtain ⟨t192, A620, H⟩ := H
                        replace H : (if t192 = true then ((sapperref17_in.f (wrap64 ((wrap64 (x10_2 + ((rd_T81 l0_1 x69_2).f0))) + ((rd_T81 l0_1 x69_2).f2))) 0 a1).bind fun t193 => (if t193 = true then (sapperref17_Check.l0 kj26 a1 (wrap64 (x10_2 + (wrap64 (((rd_T81 l0_1 x69_2).f0) + ((rd_T81 l0_1 x69_2).f2))))) l0_1 (l0_1.length : Int) (wrap64 (x69_2 + 1)) a0_0 l0_1 l0_2 l0_3) else (some 171))) else (some 171)) = some r := H
                        have A62 := Aside0.mk A620
                        clear A620
                        by_cases c63 : t192 = true
                        · subst c63
                          have H1 : ((sapperref17_in.f (wrap64 ((wrap64 (x10_2 + ((rd_T81 l0_1 x69_2).f0))) + ((rd_T81 l0_1 x69_2).f2))) 0 a1).bind fun t193 => (if t193 = true then (sapperref17_Check.l0 kj26 a1 (wrap64 (x10_2 + (wrap64 (((rd_T81 l0_1 x69_2).f0) + ((rd_T81 l0_1 x69_2).f2))))) l0_1 (l0_1.length : Int) (wrap64 (x69_2 + 1)) a0_0 l0_1 l0_2 l0_3) else (some 171))) = some r := by rw [if_pos rfl] at H; exact H
                          clear H
                          have H := H1
                          clear H1
                          replace H := Option.bind_eq_some_iff.mp H
                          obtain ⟨t193, A640, H⟩ := H
                          replace H : (if t193 = true then (sapperref17_Check.l0 kj26 a1 (wrap64 (x10_2 + (wrap64 (((rd_T81 l0_1 x69_2).f0) + ((rd_T81 l0_1 x69_2).f2))))) l0_1 (l0_1.length : Int) (wrap64 (x69_2 + 1)) a0_0 l0_1 l0_2 l0_3) else (some 171)) = some r := H
                          have A64 := Aside0.mk A640
                          clear A640
                          by_cases c65 : t193 = true
                          · subst c65
                            have H1 : (sapperref17_Check.l0 kj26 a1 (wrap64 (x10_2 + (wrap64 (((rd_T81 l0_1 x69_2).f0) + ((rd_T81 l0_1 x69_2).f2))))) l0_1 (l0_1.length : Int) (wrap64 (x69_2 + 1)) a0_0 l0_1 l0_2 l0_3) = some r := by rw [if_pos rfl] at H; exact H
                            clear H
                            have H := H1
                            clear H1
                            have H' := Aside0.mk H
                            clear H
                            have hnb66 := NB187_179.out
                            have hnc66 := NB179_187.out
                            have hcz67_0 : wc.cell? ⟨gb187, 0, none⟩ = some (.int .i64 ((rd_T81 l0_1 x69_2).f0)) := (blk_cell BK187.out 0).trans rfl
                            have hcz67_1 : wc.cell? ⟨gb187, 1, none⟩ = some (.int .i64 ((rd_T81 l0_1 x69_2).f1)) := (blk_cell BK187.out 1).trans rfl
                            have hcz67_2 : wc.cell? ⟨gb187, 2, none⟩ = some (.int .i64 ((rd_T81 l0_1 x69_2).f2)) := (blk_cell BK187.out 2).trans rfl
                            have hfz67_0 := blk_frozen BK187.out 0
                            have hfz67_1 := blk_frozen BK187.out 1
                            have hfz67_2 := blk_frozen BK187.out 2
                            go_wp2_with (first | ((with_reducible refine gate_callee (f := 43) rfl ?_); refine goesL_ (some 107) rfl rfl Try.func43 (by kernel_rfl) rfl #[.int .i64 (wrap64 (x10_2 + ((rd_T81 l0_1 x69_2).f0))), .int .i64 0, .int .i64 a1] rfl (by (try simp only [List.map_toArray, List.map_cons, List.map_nil]); first | done | rfl | (simp only [List.length_drop, List.length_take]; rfl)) ?_; (with_reducible refine (sapperref17_in.calls (wrap64 (x10_2 + ((rd_T81 l0_1 x69_2).f0))) 0 a1 true _ A62.out).mono ?_); rintro e w' ⟨rfl, ⟨nd, rfl⟩⟩; refine ⟨_, rfl, ?_⟩) | (go_at_call 43; (with_reducible refine (sapperref17_in.calls (wrap64 ((wrap64 (x10_2 + ((rd_T81 l0_1 x69_2).f0))) + ((rd_T81 l0_1 x69_2).f2))) 0 a1 true _ A64.out).mono ?_); rintro e w' ⟨rfl, ⟨nd, rfl⟩⟩))
                            go_roundg kj26
                            case measure => have := HJ4.out; have := HK2.out; have := HJ26.out; omega
                            case rel => exact ⟨(wrap64 (x10_2 + (wrap64 (((rd_T81 l0_1 x69_2).f0) + ((rd_T81 l0_1 x69_2).f2))))), (wrap64 (x69_2 + 1)), (by first | rfl | (simp; done) | (simp [*]; done)), (by first | rfl | (simp; done) | (simp [*]; done)), H', ⟨by have := HJ4.out; have := HK2.out; have := HJ26.out; omega⟩, ⟨by (with_reducible repeat (first | refine blk_drewN ?_ _ | refine blk_drew ?_ | refine blk_alloc ?_ _)); exact BK179.out⟩, ⟨by repeat (first | (with_reducible first | exact HB.out | apply below_alloc | apply pw_below_drewN | apply below_drew1 | refine below_set ?_ GE179.out | refine below_set ?_ GE187.out) | exact HB.out)⟩⟩
                          · replace c65 := Bool.eq_false_iff.mpr c65
                            subst c65
                            have H1 : (some 171) = some r := by rw [if_neg (show ¬ (false = true) by decide)] at H; exact H
                            clear H
                            have H := H1
                            clear H1
                            obtain rfl := Option.some.inj H
                            have hnb68 := NB187_179.out
                            have hnc68 := NB179_187.out
                            have hcz69_0 : wc.cell? ⟨gb187, 0, none⟩ = some (.int .i64 ((rd_T81 l0_1 x69_2).f0)) := (blk_cell BK187.out 0).trans rfl
                            have hcz69_1 : wc.cell? ⟨gb187, 1, none⟩ = some (.int .i64 ((rd_T81 l0_1 x69_2).f1)) := (blk_cell BK187.out 1).trans rfl
                            have hcz69_2 : wc.cell? ⟨gb187, 2, none⟩ = some (.int .i64 ((rd_T81 l0_1 x69_2).f2)) := (blk_cell BK187.out 2).trans rfl
                            have hfz69_0 := blk_frozen BK187.out 0
                            have hfz69_1 := blk_frozen BK187.out 1
                            have hfz69_2 := blk_frozen BK187.out 2
                            go_wp2_with (first | ((with_reducible refine gate_callee (f := 43) rfl ?_); refine goesL_ (some 107) rfl rfl Try.func43 (by kernel_rfl) rfl #[.int .i64 (wrap64 (x10_2 + ((rd_T81 l0_1 x69_2).f0))), .int .i64 0, .int .i64 a1] rfl (by (try simp only [List.map_toArray, List.map_cons, List.map_nil]); first | done | rfl | (simp only [List.length_drop, List.length_take]; rfl)) ?_; (with_reducible refine (sapperref17_in.calls (wrap64 (x10_2 + ((rd_T81 l0_1 x69_2).f0))) 0 a1 true _ A62.out).mono ?_); rintro e w' ⟨rfl, ⟨nd, rfl⟩⟩; refine ⟨_, rfl, ?_⟩) | (go_at_call 43; (with_reducible refine (sapperref17_in.calls (wrap64 ((wrap64 (x10_2 + ((rd_T81 l0_1 x69_2).f0))) + ((rd_T81 l0_1 x69_2).f2))) 0 a1 false _ A64.out).mono ?_); rintro e w' ⟨rfl, ⟨nd, rfl⟩⟩))
                            go_ret
                            exact ⟨by first | rfl | (simp [errW_none, errW_some] <;> rfl) | (simp [*, errW_none, errW_some] <;> rfl), by repeat (first | (with_reducible first | exact HB.out | apply below_alloc | apply pw_below_drewN | apply below_drew1 | refine below_set ?_ GE179.out | refine below_set ?_ GE187.out) | exact HB.out)⟩
                        · replace c63 := Bool.eq_false_iff.mpr c63
                          subst c63
                          have H1 : (some 171) = some r := by rw [if_neg (show ¬ (false = true) by decide)] at H; exact H
                          clear H
                          have H := H1
                          clear H1
                          obtain rfl := Option.some.inj H
                          have hnb70 := NB187_179.out
                          have hnc70 := NB179_187.out
                          have hcz71_0 : wc.cell? ⟨gb187, 0, none⟩ = some (.int .i64 ((rd_T81 l0_1 x69_2).f0)) := (blk_cell BK187.out 0).trans rfl
                          have hcz71_1 : wc.cell? ⟨gb187, 1, none⟩ = some (.int .i64 ((rd_T81 l0_1 x69_2).f1)) := (blk_cell BK187.out 1).trans rfl
                          have hcz71_2 : wc.cell? ⟨gb187, 2, none⟩ = some (.int .i64 ((rd_T81 l0_1 x69_2).f2)) := (blk_cell BK187.out 2).trans rfl
                          have hfz71_0 := blk_frozen BK187.out 0
                          have hfz71_1 := blk_frozen BK187.out 1
                          have hfz71_2 := blk_frozen BK187.out 2
                          go_wp2_with (first | ((with_reducible refine gate_callee (f := 43) rfl ?_); refine goesL_ (some 107) rfl rfl Try.func43 (by kernel_rfl) rfl #[.int .i64 (wrap64 (x10_2 + ((rd_T81 l0_1 x69_2).f0))), .int .i64 0, .int .i64 a1] rfl (by (try simp only [List.map_toArray, List.map_cons, List.map_nil]); first | done | rfl | (simp only [List.length_drop, List.length_take]; rfl)) ?_; (with_reducible refine (sapperref17_in.calls (wrap64 (x10_2 + ((rd_T81 l0_1 x69_2).f0))) 0 a1 false _ A62.out).mono ?_); rintro e w' ⟨rfl, ⟨nd, rfl⟩⟩; refine ⟨_, rfl, ?_⟩))
                          go_ret
                          exact ⟨by first | rfl | (simp [errW_none, errW_some] <;> rfl) | (simp [*, errW_none, errW_some] <;> rfl), by repeat (first | (with_reducible first | exact HB.out | apply below_alloc | apply pw_below_drewN | apply below_drew1 | refine below_set ?_ GE179.out | refine below_set ?_ GE187.out) | exact HB.out)⟩
                · rw [if_neg c26] at H
                  exact absurd H (by simp)
              · rw [if_neg c25] at H
                exact absurd H (by simp)
            · rw [if_neg c24] at H
              have c24b0 : decide (x69_2 < (l0_1.length : Int)) = false := decide_eq_false c24
              clear c24
              obtain rfl := Option.some.inj H
              go_wp2
              go_ret
              exact ⟨by first | rfl | (simp [errW_none, errW_some] <;> rfl) | (simp [*, errW_none, errW_some] <;> rfl), by repeat (first | (with_reducible first | exact HB.out | apply below_alloc | apply pw_below_drewN | apply below_drew1 | refine below_set ?_ GE179.out) | exact HB.out)⟩
end Go.Proofs.Ytinlfoblpgpikaa.Pr
