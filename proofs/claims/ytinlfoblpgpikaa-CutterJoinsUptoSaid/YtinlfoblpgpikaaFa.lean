import Derived.Test.YtinlfoblpgpikaaF2
namespace Go.Proofs.Ytinlfoblpgpikaa.Pr
open Go.RowKit Go.Proofs.YtinlfoblpgpikaaW.PrintWords Go.Proofs.YtinlfoblpgpikaaW.PrintLast Go.Proofs.YtinlfoblpgpikaaW.PrintMore
attribute [local go_sem] max2_int min2_int max_two min_two max_three min_three max_four min_four   -- for this text's walks alone
set_option linter.unusedVariables false
set_option linter.unusedSimpArgs false

/-! ### sapperref17_Join: function 29 -/
mutual
def sapperref17_Join.l0 : Nat → Int → List (S45) → Int → List (S45) → Int → Int → List (S81) → List Int → List Int → Option ((List (S81)) × List Int × List Int × Int)
  | 0, _, _, _, _, _, _, _, _, _ => none
  | k + 1, x0, x1, x7, x20, x21, x22, x226000, x226001, x226002 => if x22 < x21 then (if 0 ≤ x22 then (if x22 < (x20.length : Int) then ((sapperref17_Sums.f k ((rd_T45 x20 x22).f1.f0)).bind fun bt228 => (if bt228.2.2 = true then (if x22 < (wrap64 ((x1.length : Int) - 1)) then (if (wrap64 (bt228.1 + bt228.2.1)) = x0 then (if (wrap64 (bt228.1 + bt228.2.1)) < 1 then (sapperref17_Join.j1 k x0 x1 x7 x20 x21 x22 true x226000 x226001 x226002 ((rd_T45 x20 x22).f0) ((rd_T45 x20 x22).f1.f0) ((rd_T45 x20 x22).f1.f1) ((rd_T45 x20 x22).f1.f2)) else (if (wrap64 (bt228.1 + bt228.2.1)) > x0 then (sapperref17_Join.j1 k x0 x1 x7 x20 x21 x22 true x226000 x226001 x226002 ((rd_T45 x20 x22).f0) ((rd_T45 x20 x22).f1.f0) ((rd_T45 x20 x22).f1.f1) ((rd_T45 x20 x22).f1.f2)) else ((sapperref17_Check.f k ((rd_T45 x20 x22).f0) ((rd_T45 x20 x22).f1.f0) ((rd_T45 x20 x22).f1.f1) ((rd_T45 x20 x22).f1.f2) 16777216 (wrap64 (bt228.1 + bt228.2.1))).bind fun t231 => (sapperref17_Join.j1 k x0 x1 x7 x20 x21 x22 (t231 != 0) x226000 x226001 x226002 ((rd_T45 x20 x22).f0) ((rd_T45 x20 x22).f1.f0) ((rd_T45 x20 x22).f1.f1) ((rd_T45 x20 x22).f1.f2))))) else (sapperref17_Join.j1 k x0 x1 x7 x20 x21 x22 true x226000 x226001 x226002 ((rd_T45 x20 x22).f0) ((rd_T45 x20 x22).f1.f0) ((rd_T45 x20 x22).f1.f1) ((rd_T45 x20 x22).f1.f2))) else (if (wrap64 (bt228.1 + bt228.2.1)) < 1 then (sapperref17_Join.j1 k x0 x1 x7 x20 x21 x22 true x226000 x226001 x226002 ((rd_T45 x20 x22).f0) ((rd_T45 x20 x22).f1.f0) ((rd_T45 x20 x22).f1.f1) ((rd_T45 x20 x22).f1.f2)) else (if (wrap64 (bt228.1 + bt228.2.1)) > x0 then (sapperref17_Join.j1 k x0 x1 x7 x20 x21 x22 true x226000 x226001 x226002 ((rd_T45 x20 x22).f0) ((rd_T45 x20 x22).f1.f0) ((rd_T45 x20 x22).f1.f1) ((rd_T45 x20 x22).f1.f2)) else ((sapperref17_Check.f k ((rd_T45 x20 x22).f0) ((rd_T45 x20 x22).f1.f0) ((rd_T45 x20 x22).f1.f1) ((rd_T45 x20 x22).f1.f2) 16777216 (wrap64 (bt228.1 + bt228.2.1))).bind fun t232 => (sapperref17_Join.j1 k x0 x1 x7 x20 x21 x22 (t232 != 0) x226000 x226001 x226002 ((rd_T45 x20 x22).f0) ((rd_T45 x20 x22).f1.f0) ((rd_T45 x20 x22).f1.f1) ((rd_T45 x20 x22).f1.f2)))))) else (sapperref17_Join.j1 k x0 x1 x7 x20 x21 x22 true x226000 x226001 x226002 ((rd_T45 x20 x22).f0) ((rd_T45 x20 x22).f1.f0) ((rd_T45 x20 x22).f1.f1) ((rd_T45 x20 x22).f1.f2)))) else (none)) else (none)) else (some (x226000, x226001, x226002, 0))
def sapperref17_Join.j1 : Nat → Int → List (S45) → Int → List (S45) → Int → Int → Bool → List (S81) → List Int → List Int → Int → List (S81) → List Int → List Int → Option ((List (S81)) × List Int × List Int × Int)
  | 0, _, _, _, _, _, _, _, _, _, _, _, _, _, _ => none
  | k + 1, x0, x1, x7, x20, x21, x22, x66, x226000, x226001, x226002, x228000, x228001, x228002, x228003 => if x66 = true then (some (([] : List (S81)), ([] : List Int), ([] : List Int), 171)) else (if x228000 = x7 then (sapperref17_Join.j2 k x0 x1 x7 x20 x21 x22 x226000 x226001 x226002 x228000 x228001 x228002 x228003) else (if x226000.length < 5864062014805 then (sapperref17_Join.j2 k x0 x1 x228000 x20 x21 x22 (x226000 ++ [(⟨0, 0, wrap64 (x228000 - x7)⟩ : S81)]) x226001 x226002 x228000 x228001 x228002 x228003) else (none)))
def sapperref17_Join.j2 : Nat → Int → List (S45) → Int → List (S45) → Int → Int → List (S81) → List Int → List Int → Int → List (S81) → List Int → List Int → Option ((List (S81)) × List Int × List Int × Int)
  | 0, _, _, _, _, _, _, _, _, _, _, _, _, _ => none
  | k + 1, x0, x1, x7, x20, x21, x22, x226000, x226001, x226002, x228000, x228001, x228002, x228003 => sapperref17_Join.l1 k x0 x1 x7 x20 x21 x22 x228001 (x228001.length : Int) 0 x226000 x226001 x226002 x228000 x228001 x228002 x228003
def sapperref17_Join.l1 : Nat → Int → List (S45) → Int → List (S45) → Int → Int → List (S81) → Int → Int → List (S81) → List Int → List Int → Int → List (S81) → List Int → List Int → Option ((List (S81)) × List Int × List Int × Int)
  | 0, _, _, _, _, _, _, _, _, _, _, _, _, _, _, _, _ => none
  | k + 1, x0, x1, x7, x20, x21, x22, x86, x87, x88, x226000, x226001, x226002, x228000, x228001, x228002, x228003 => if x88 < x87 then (if 0 ≤ x88 then (if x88 < (x86.length : Int) then (sapperref17_Join.l1 k x0 x1 (wrap64 (x7 + (wrap64 (((rd_T81 x86 x88).f0) + ((rd_T81 x86 x88).f2))))) x20 x21 x22 x86 x87 (wrap64 (x88 + 1)) x226000 x226001 x226002 x228000 x228001 x228002 x228003) else (none)) else (none)) else (if x226000.length + x228001.length < 5864062014805 then (if x226001.length + x228002.length < 140737488355328 then (if x226002.length + x228003.length < 140737488355328 then (sapperref17_Join.l0 k x0 x1 x7 x20 x21 (wrap64 (x22 + 1)) (x226000 ++ x228001) (x226001 ++ x228002) (x226002 ++ x228003)) else (none)) else (none)) else (none))
end
def sapperref17_Join.f (k : Nat) (a0 : Int) (l1 : List (S45)) : Option ((List (S81)) × List Int × List Int × Int) := (sapperref17_in.f a0 64 65536).bind fun t224 => (if t224 = true then (sapperref17_Join.l0 k a0 l1 0 l1 (l1.length : Int) 0 ([] : List (S81)) ([] : List Int) ([] : List Int)) else (some (([] : List (S81)), ([] : List Int), ([] : List Int), 170)))
theorem sapperref17_Join.mono_l : ∀ k, (∀ y0 y1 y2 y3 y4 y5 y6 y7 y8, LeO (sapperref17_Join.l0 k y0 y1 y2 y3 y4 y5 y6 y7 y8) (sapperref17_Join.l0 (k + 1) y0 y1 y2 y3 y4 y5 y6 y7 y8)) ∧ (∀ y0 y1 y2 y3 y4 y5 y6 y7 y8 y9 y10 y11 y12 y13, LeO (sapperref17_Join.j1 k y0 y1 y2 y3 y4 y5 y6 y7 y8 y9 y10 y11 y12 y13) (sapperref17_Join.j1 (k + 1) y0 y1 y2 y3 y4 y5 y6 y7 y8 y9 y10 y11 y12 y13)) ∧ (∀ y0 y1 y2 y3 y4 y5 y6 y7 y8 y9 y10 y11 y12, LeO (sapperref17_Join.j2 k y0 y1 y2 y3 y4 y5 y6 y7 y8 y9 y10 y11 y12) (sapperref17_Join.j2 (k + 1) y0 y1 y2 y3 y4 y5 y6 y7 y8 y9 y10 y11 y12)) ∧ (∀ y0 y1 y2 y3 y4 y5 y6 y7 y8 y9 y10 y11 y12 y13 y14 y15, LeO (sapperref17_Join.l1 k y0 y1 y2 y3 y4 y5 y6 y7 y8 y9 y10 y11 y12 y13 y14 y15) (sapperref17_Join.l1 (k + 1) y0 y1 y2 y3 y4 y5 y6 y7 y8 y9 y10 y11 y12 y13 y14 y15))
  | 0 => ⟨fun _ _ _ _ _ _ _ _ _ r h => by simp [sapperref17_Join.l0] at h, fun _ _ _ _ _ _ _ _ _ _ _ _ _ _ r h => by simp [sapperref17_Join.j1] at h, fun _ _ _ _ _ _ _ _ _ _ _ _ _ r h => by simp [sapperref17_Join.j2] at h, fun _ _ _ _ _ _ _ _ _ _ _ _ _ _ _ _ r h => by simp [sapperref17_Join.l1] at h⟩
  | k + 1 => by
    obtain ⟨ih0, ih1, ih2, ih3⟩ := sapperref17_Join.mono_l k
    refine ⟨?_, ?_, ?_, ?_⟩
    · intro y0 y1 y2 y3 y4 y5 y6 y7 y8
      unfold sapperref17_Join.l0
      repeat' first
      | (with_reducible exact ih0 _ _ _ _ _ _ _ _ _)
      | (with_reducible exact ih1 _ _ _ _ _ _ _ _ _ _ _ _ _ _)
      | (with_reducible exact ih2 _ _ _ _ _ _ _ _ _ _ _ _ _)
      | (with_reducible exact ih3 _ _ _ _ _ _ _ _ _ _ _ _ _ _ _ _)
      | (with_reducible exact sapperref17_Check.mono _ _ _ _ _ _ _)
      | (with_reducible exact sapperref17_Sums.mono _ _)
      | (with_reducible exact LeO.refl _)
      | (with_reducible exact LeO.none _)
      | (with_reducible refine LeO.ite ?_ ?_)
      | (with_reducible refine LeO.bind ?_ (fun _ => ?_))
      | exact ih0 _ _ _ _ _ _ _ _ _
      | exact ih1 _ _ _ _ _ _ _ _ _ _ _ _ _ _
      | exact ih2 _ _ _ _ _ _ _ _ _ _ _ _ _
      | exact ih3 _ _ _ _ _ _ _ _ _ _ _ _ _ _ _ _
      | exact sapperref17_Check.mono _ _ _ _ _ _ _
      | exact sapperref17_Sums.mono _ _
      | exact LeO.none _
      | refine LeO.ite ?_ ?_
      | refine LeO.bind ?_ (fun _ => ?_)
    · intro y0 y1 y2 y3 y4 y5 y6 y7 y8 y9 y10 y11 y12 y13
      unfold sapperref17_Join.j1
      repeat' first
      | (with_reducible exact ih0 _ _ _ _ _ _ _ _ _)
      | (with_reducible exact ih1 _ _ _ _ _ _ _ _ _ _ _ _ _ _)
      | (with_reducible exact ih2 _ _ _ _ _ _ _ _ _ _ _ _ _)
      | (with_reducible exact ih3 _ _ _ _ _ _ _ _ _ _ _ _ _ _ _ _)
      | (with_reducible exact sapperref17_Check.mono _ _ _ _ _ _ _)
      | (with_reducible exact sapperref17_Sums.mono _ _)
      | (with_reducible exact LeO.refl _)
      | (with_reducible exact LeO.none _)
      | (with_reducible refine LeO.ite ?_ ?_)
      | (with_reducible refine LeO.bind ?_ (fun _ => ?_))
      | exact ih0 _ _ _ _ _ _ _ _ _
      | exact ih1 _ _ _ _ _ _ _ _ _ _ _ _ _ _
      | exact ih2 _ _ _ _ _ _ _ _ _ _ _ _ _
      | exact ih3 _ _ _ _ _ _ _ _ _ _ _ _ _ _ _ _
      | exact sapperref17_Check.mono _ _ _ _ _ _ _
      | exact sapperref17_Sums.mono _ _
      | exact LeO.none _
      | refine LeO.ite ?_ ?_
      | refine LeO.bind ?_ (fun _ => ?_)
    · intro y0 y1 y2 y3 y4 y5 y6 y7 y8 y9 y10 y11 y12
      unfold sapperref17_Join.j2
      repeat' first
      | (with_reducible exact ih0 _ _ _ _ _ _ _ _ _)
      | (with_reducible exact ih1 _ _ _ _ _ _ _ _ _ _ _ _ _ _)
      | (with_reducible exact ih2 _ _ _ _ _ _ _ _ _ _ _ _ _)
      | (with_reducible exact ih3 _ _ _ _ _ _ _ _ _ _ _ _ _ _ _ _)
      | (with_reducible exact sapperref17_Check.mono _ _ _ _ _ _ _)
      | (with_reducible exact sapperref17_Sums.mono _ _)
      | (with_reducible exact LeO.refl _)
      | (with_reducible exact LeO.none _)
      | (with_reducible refine LeO.ite ?_ ?_)
      | (with_reducible refine LeO.bind ?_ (fun _ => ?_))
      | exact ih0 _ _ _ _ _ _ _ _ _
      | exact ih1 _ _ _ _ _ _ _ _ _ _ _ _ _ _
      | exact ih2 _ _ _ _ _ _ _ _ _ _ _ _ _
      | exact ih3 _ _ _ _ _ _ _ _ _ _ _ _ _ _ _ _
      | exact sapperref17_Check.mono _ _ _ _ _ _ _
      | exact sapperref17_Sums.mono _ _
      | exact LeO.none _
      | refine LeO.ite ?_ ?_
      | refine LeO.bind ?_ (fun _ => ?_)
    · intro y0 y1 y2 y3 y4 y5 y6 y7 y8 y9 y10 y11 y12 y13 y14 y15
      unfold sapperref17_Join.l1
      repeat' first
      | (with_reducible exact ih0 _ _ _ _ _ _ _ _ _)
      | (with_reducible exact ih1 _ _ _ _ _ _ _ _ _ _ _ _ _ _)
      | (with_reducible exact ih2 _ _ _ _ _ _ _ _ _ _ _ _ _)
      | (with_reducible exact ih3 _ _ _ _ _ _ _ _ _ _ _ _ _ _ _ _)
      | (with_reducible exact sapperref17_Check.mono _ _ _ _ _ _ _)
      | (with_reducible exact sapperref17_Sums.mono _ _)
      | (with_reducible exact LeO.refl _)
      | (with_reducible exact LeO.none _)
      | (with_reducible refine LeO.ite ?_ ?_)
      | (with_reducible refine LeO.bind ?_ (fun _ => ?_))
      | exact ih0 _ _ _ _ _ _ _ _ _
      | exact ih1 _ _ _ _ _ _ _ _ _ _ _ _ _ _
      | exact ih2 _ _ _ _ _ _ _ _ _ _ _ _ _
      | exact ih3 _ _ _ _ _ _ _ _ _ _ _ _ _ _ _ _
      | exact sapperref17_Check.mono _ _ _ _ _ _ _
      | exact sapperref17_Sums.mono _ _
      | exact LeO.none _
      | refine LeO.ite ?_ ?_
      | refine LeO.bind ?_ (fun _ => ?_)
theorem sapperref17_Join.mono : ∀ a0 a1 k, LeO (sapperref17_Join.f k a0 a1) (sapperref17_Join.f (k + 1) a0 a1) := by
  intro a0 a1 k
  obtain ⟨ih0, ih1, ih2, ih3⟩ := sapperref17_Join.mono_l k
  unfold sapperref17_Join.f
  repeat' first
      | (with_reducible exact ih0 _ _ _ _ _ _ _ _ _)
      | (with_reducible exact ih1 _ _ _ _ _ _ _ _ _ _ _ _ _ _)
      | (with_reducible exact ih2 _ _ _ _ _ _ _ _ _ _ _ _ _)
      | (with_reducible exact ih3 _ _ _ _ _ _ _ _ _ _ _ _ _ _ _ _)
      | (with_reducible exact sapperref17_Check.mono _ _ _ _ _ _ _)
      | (with_reducible exact sapperref17_Sums.mono _ _)
      | (with_reducible exact LeO.refl _)
      | (with_reducible exact LeO.none _)
      | (with_reducible refine LeO.ite ?_ ?_)
      | (with_reducible refine LeO.bind ?_ (fun _ => ?_))
      | exact ih0 _ _ _ _ _ _ _ _ _
      | exact ih1 _ _ _ _ _ _ _ _ _ _ _ _ _ _
      | exact ih2 _ _ _ _ _ _ _ _ _ _ _ _ _
      | exact ih3 _ _ _ _ _ _ _ _ _ _ _ _ _ _ _ _
      | exact sapperref17_Check.mono _ _ _ _ _ _ _
      | exact sapperref17_Sums.mono _ _
      | exact LeO.none _
      | refine LeO.ite ?_ ?_
      | refine LeO.bind ?_ (fun _ => ?_)
set_option maxHeartbeats 8000000 in
set_option maxRecDepth 100000 in
theorem sapperref17_Join.calls (k : Nat) (a0 : Int) (A1 : Option Addr) (c1 : Nat) (l1 : List (S45)) (r1 : List (S81)) (r2 : List Int) (r3 : List Int) (r4 : Int) (w : World) (hr1 : Kd.C k45 w A1 l1.length l1) (hc1 : l1.length ≤ c1) (h : sapperref17_Join.f k a0 l1 = some (r1, r2, r3, r4)) :
    Calls Try.prog 29 #[.int .i64 a0, .slice A1 l1.length c1] w fun e w' => ∃ v0_ v1_ v2_ : Value, e = .returned (.tuple #[.agg #[v0_, v1_, v2_], .int .i64 r4]) ∧ Kd.R k81 81 w' w.heap.size (fun _ => True) v0_ r1 ∧ Kd.R (Kd.int .u8) 5 w' w.heap.size (fun k_ => some k_ ≠ (v2_ : Value).ownBlock) v1_ r2 ∧ Kd.R (Kd.int .u8) 5 w' w.heap.size (fun k_ => some k_ ≠ (v1_ : Value).ownBlock) v2_ r3 ∧ Below w.heap.size w w' := by
  have hu26 := Try.underlying26
  have hu45 := Try.underlying45
  have hu81 := Try.underlying81
  have HR1 := Aside0.mk hr1
  have HC1 := Aside0.mk hc1
  clear hr1 hc1
  have HB := Aside0.mk (Below.refl w.heap.size w)
  have H : ((sapperref17_in.f a0 64 65536).bind fun t224 => (if t224 = true then (sapperref17_Join.l0 k a0 l1 0 l1 (l1.length : Int) 0 ([] : List (S81)) ([] : List Int) ([] : List Int)) else (some (([] : List (S81)), ([] : List Int), ([] : List Int), 170)))) = some (r1, r2, r3, r4) := h
  clear h
  replace H := Option.bind_eq_some_iff.mp H
  obtain ⟨t224, A30, H⟩ := H
  replace H : (if t224 = true then (sapperref17_Join.l0 k a0 l1 0 l1 (l1.length : Int) 0 ([] : List (S81)) ([] : List Int) ([] : List Int)) else (some (([] : List (S81)), ([] : List Int), ([] : List Int), 170))) = some (r1, r2, r3, r4) := H
  have A3 := Aside0.mk A30
  clear A30
  by_cases c4 : t224 = true
  · subst c4
    have H1 : (sapperref17_Join.l0 k a0 l1 0 l1 (l1.length : Int) 0 ([] : List (S81)) ([] : List Int) ([] : List Int)) = some (r1, r2, r3, r4) := by rw [if_pos rfl] at H; exact H
    clear H
    have H := H1
    clear H1
    have H' := Aside0.mk H
    clear H
    go_enter Try.func29, Try.ntmps29
    go_wp2_with (first | ((with_reducible refine gate_dst (N := 4) rfl ?_); (try (refine gate_guard (by rfl) ?_; dsimp only)); refine box_event ?hg (N := 4) ?hd (cs := #[.slice none 0 0, .slice none 0 0, .slice none 0 0]) (t := 26) ?hr ?_; (case hd => rfl); (case hg => rfl); (case hr => first | (go_simp; done) | (go_simp; rfl)); intro gb223 hg w5 hbox hb; have n0_ := Aside0.mk (below_step (by repeat (first | (with_reducible first | exact HB.out | apply below_alloc | apply pw_below_drewN | apply below_drew1) | exact HB.out)) hb); have n1_ := Aside0.mk (hbox); have n2_ := Aside0.mk ((by rw [hg]; exact (below_size (by repeat (first | (with_reducible first | exact HB.out | apply below_alloc | apply pw_below_drewN | apply below_drew1) | exact HB.out))) : w.heap.size ≤ gb223)); have n3_ := Aside0.mk ((by rw [hg]; exact (below_size (by repeat (first | (with_reducible first | exact HB.out | apply below_alloc | apply pw_below_drewN | apply below_drew1) | exact HB.out))) : w.heap.size ≤ gb223)); clear HB; have HB := n0_; have BK223 := n1_; have GW223 := n2_; have GE223 := n3_; clear n0_ n1_ n2_ n3_; clear hb hbox hg) | ((with_reducible refine gate_callee (f := 43) rfl ?_); refine goesL_ (some 17) rfl rfl Try.func43 (by kernel_rfl) rfl #[.int .i64 a0, .int .i64 64, .int .i64 65536] rfl (by (try simp only [List.map_toArray, List.map_cons, List.map_nil]); first | done | rfl | (simp only [List.length_drop, List.length_take]; rfl)) ?_; (with_reducible refine (sapperref17_in.calls a0 64 65536 true _ A3.out).mono ?_); rintro e w' ⟨rfl, ⟨nd, rfl⟩⟩; refine ⟨_, rfl, ?_⟩) | ((with_reducible refine gate_dst (N := 6) rfl ?_); (try (refine gate_guard (by rfl) ?_; dsimp only)); refine box_event ?hg (N := 6) ?hd (cs := #[.slice none 0 0, .slice none 0 0, .slice none 0 0]) (t := 26) ?hr ?_; (case hd => rfl); (case hg => rfl); (case hr => first | (go_simp; done) | (go_simp; rfl)); intro gb225 hg w6 hbox hb; have n0_ := Aside0.mk (blk_below (g := gb223) (o := .cells #[.slice none 0 0, .slice none 0 0, .slice none 0 0] 26 (0, 0)) (by (with_reducible repeat (first | refine blk_drewN ?_ _ | refine blk_drew ?_ | refine blk_alloc ?_ _)); exact BK223.out) hb); have n1_ := Aside0.mk (below_step (by repeat (first | (with_reducible first | exact HB.out | apply below_alloc | apply pw_below_drewN | apply below_drew1 | refine below_set ?_ GE223.out) | exact HB.out)) hb); have n2_ := Aside0.mk (hbox); have n3_ := Aside0.mk ((by rw [hg]; exact (below_size (by repeat (first | (with_reducible first | exact HB.out | apply below_alloc | apply pw_below_drewN | apply below_drew1 | refine below_set ?_ GE223.out) | exact HB.out))) : w.heap.size ≤ gb225)); have n4_ := Aside0.mk ((by rw [hg]; exact (below_size (by repeat (first | (with_reducible first | exact HB.out | apply below_alloc | apply pw_below_drewN | apply below_drew1 | refine below_set ?_ GE223.out) | exact HB.out))) : w.heap.size ≤ gb225)); have n5_ := Aside0.mk ((by rw [hg]; exact Nat.ne_of_lt (blk_lt (g := gb223) (o := .cells #[.slice none 0 0, .slice none 0 0, .slice none 0 0] 26 (0, 0)) (by (with_reducible repeat (first | refine blk_drewN ?_ _ | refine blk_drew ?_ | refine blk_alloc ?_ _)); exact BK223.out)) : gb223 ≠ gb225)); have n6_ := Aside0.mk ((by rw [hg]; exact Nat.ne_of_gt (blk_lt (g := gb223) (o := .cells #[.slice none 0 0, .slice none 0 0, .slice none 0 0] 26 (0, 0)) (by (with_reducible repeat (first | refine blk_drewN ?_ _ | refine blk_drew ?_ | refine blk_alloc ?_ _)); exact BK223.out)) : gb225 ≠ gb223)); clear BK223; clear HB; have BK223 := n0_; have HB := n1_; have BK225 := n2_; have GW225 := n3_; have GE225 := n4_; have NB223_225 := n5_; have NB225_223 := n6_; clear n0_ n1_ n2_ n3_ n4_ n5_ n6_; clear hb hbox hg))
    go_loopg [7, 22] k (fun kq v7 v22 w' => ∃ (x7_1 : Int) (x22_1 : Int) (x226000_1 : List (S81)) (x226001_1 : List Int) (x226002_1 : List Int) (u226000 : Value) (u226001 : Value) (u226002 : Value), v7 = .int .i64 x7_1 ∧ v22 = .int .i64 x22_1 ∧ Aside0 (sapperref17_Join.l0 kq a0 l1 x7_1 l1 (l1.length : Int) x22_1 x226000_1 x226001_1 x226002_1 = some (r1, r2, r3, r4)) ∧ Aside0 (kq ≤ k) ∧ Aside0 (Kd.R k81 81 w' w.heap.size (fun _ => True) u226000 x226000_1) ∧ Aside0 (Kd.R (Kd.int .u8) 5 w' w.heap.size (fun k_ => some k_ ≠ (u226002 : Value).ownBlock) u226001 x226001_1) ∧ Aside0 (Kd.R (Kd.int .u8) 5 w' w.heap.size (fun k_ => some k_ ≠ (u226001 : Value).ownBlock) u226002 x226002_1) ∧ Aside0 (w'.heap[gb223]? = some (.cells #[(.slice none 0 0), (.slice none 0 0), (.slice none 0 0)] 26 (0, 0))) ∧ Aside0 (w'.heap[gb225]? = some (.cells #[u226000, u226001, u226002] 26 (0, 0))) ∧ Aside0 (Below w.heap.size w w'))
    case atStart => exact ⟨(0), (0), (([] : List (S81))), (([] : List Int)), (([] : List Int)), (.slice none 0 0), (.slice none 0 0), (.slice none 0 0), (by first | rfl | (simp; done) | (simp [*]; done)), (by first | rfl | (simp; done) | (simp [*]; done)), H', ⟨Nat.le_refl _⟩, ⟨by first | exact Kd.R_nil _ _ _ _ _ | exact Kd.N_nil _ _ _ _ _ | exact Kd.V_nil _ _ _ _ _ | exact Kd.Q_nil _ _ _ _ _ | exact Kd.S_nil _ _ _ _ _⟩, ⟨by first | exact Kd.R_nil _ _ _ _ _ | exact Kd.N_nil _ _ _ _ _ | exact Kd.V_nil _ _ _ _ _ | exact Kd.Q_nil _ _ _ _ _ | exact Kd.S_nil _ _ _ _ _⟩, ⟨by first | exact Kd.R_nil _ _ _ _ _ | exact Kd.N_nil _ _ _ _ _ | exact Kd.V_nil _ _ _ _ _ | exact Kd.Q_nil _ _ _ _ _ | exact Kd.S_nil _ _ _ _ _⟩, ⟨by (with_reducible repeat (first | refine blk_drewN ?_ _ | refine blk_drew ?_ | refine blk_alloc ?_ _)); exact BK223.out⟩, ⟨by (with_reducible repeat (first | refine blk_drewN ?_ _ | refine blk_drew ?_ | refine blk_alloc ?_ _)); exact BK225.out⟩, ⟨by repeat (first | (with_reducible first | exact HB.out | apply below_alloc | apply pw_below_drewN | apply below_drew1 | refine below_set ?_ GE223.out | refine below_set ?_ GE225.out) | exact HB.out)⟩⟩
    case round =>
      clear H'
      try clear c1
      try clear c2
      try clear p2
      try clear c4
      obtain ⟨x7_1, x22_1, x226000_1, x226001_1, x226002_1, u226000, u226001, u226002, rfl, rfl, HA, HK1, HO_226000, HO_226001, HO_226002, BK223, BK225, HB⟩ := hrel
      cases gk with
      | zero => exact absurd HA.out (by simp [sapperref17_Join.l0])
      | succ k1 =>
        have H := HA.out
        clear HA
        simp only [sapperref17_Join.l0] at H
        by_cases c7 : x22_1 < (l1.length : Int)
        · rw [if_pos c7] at H
          have c7b0 : decide (x22_1 < (l1.length : Int)) = true := decide_eq_true c7
          clear c7
          by_cases c8 : 0 ≤ x22_1
          · rw [if_pos c8] at H
            have c8b0 : decide (0 ≤ x22_1) = true := decide_eq_true c8
            clear c8
            by_cases c9 : x22_1 < (l1.length : Int)
            · rw [if_pos c9] at H
              have c9b0 : decide (x22_1 < (l1.length : Int)) = true := decide_eq_true c9
              clear c9
              replace H := Option.bind_eq_some_iff.mp H
              obtain ⟨⟨t228, t229, t230⟩, A100, H⟩ := H
              replace H : (if t230 = true then (if x22_1 < (wrap64 ((l1.length : Int) - 1)) then (if (wrap64 (t228 + t229)) = a0 then (if (wrap64 (t228 + t229)) < 1 then (sapperref17_Join.j1 k1 a0 l1 x7_1 l1 (l1.length : Int) x22_1 true x226000_1 x226001_1 x226002_1 ((rd_T45 l1 x22_1).f0) ((rd_T45 l1 x22_1).f1.f0) ((rd_T45 l1 x22_1).f1.f1) ((rd_T45 l1 x22_1).f1.f2)) else (if (wrap64 (t228 + t229)) > a0 then (sapperref17_Join.j1 k1 a0 l1 x7_1 l1 (l1.length : Int) x22_1 true x226000_1 x226001_1 x226002_1 ((rd_T45 l1 x22_1).f0) ((rd_T45 l1 x22_1).f1.f0) ((rd_T45 l1 x22_1).f1.f1) ((rd_T45 l1 x22_1).f1.f2)) else ((sapperref17_Check.f k1 ((rd_T45 l1 x22_1).f0) ((rd_T45 l1 x22_1).f1.f0) ((rd_T45 l1 x22_1).f1.f1) ((rd_T45 l1 x22_1).f1.f2) 16777216 (wrap64 (t228 + t229))).bind fun t231 => (sapperref17_Join.j1 k1 a0 l1 x7_1 l1 (l1.length : Int) x22_1 (t231 != 0) x226000_1 x226001_1 x226002_1 ((rd_T45 l1 x22_1).f0) ((rd_T45 l1 x22_1).f1.f0) ((rd_T45 l1 x22_1).f1.f1) ((rd_T45 l1 x22_1).f1.f2))))) else (sapperref17_Join.j1 k1 a0 l1 x7_1 l1 (l1.length : Int) x22_1 true x226000_1 x226001_1 x226002_1 ((rd_T45 l1 x22_1).f0) ((rd_T45 l1 x22_1).f1.f0) ((rd_T45 l1 x22_1).f1.f1) ((rd_T45 l1 x22_1).f1.f2))) else (if (wrap64 (t228 + t229)) < 1 then (sapperref17_Join.j1 k1 a0 l1 x7_1 l1 (l1.length : Int) x22_1 true x226000_1 x226001_1 x226002_1 ((rd_T45 l1 x22_1).f0) ((rd_T45 l1 x22_1).f1.f0) ((rd_T45 l1 x22_1).f1.f1) ((rd_T45 l1 x22_1).f1.f2)) else (if (wrap64 (t228 + t229)) > a0 then (sapperref17_Join.j1 k1 a0 l1 x7_1 l1 (l1.length : Int) x22_1 true x226000_1 x226001_1 x226002_1 ((rd_T45 l1 x22_1).f0) ((rd_T45 l1 x22_1).f1.f0) ((rd_T45 l1 x22_1).f1.f1) ((rd_T45 l1 x22_1).f1.f2)) else ((sapperref17_Check.f k1 ((rd_T45 l1 x22_1).f0) ((rd_T45 l1 x22_1).f1.f0) ((rd_T45 l1 x22_1).f1.f1) ((rd_T45 l1 x22_1).f1.f2) 16777216 (wrap64 (t228 + t229))).bind fun t232 => (sapperref17_Join.j1 k1 a0 l1 x7_1 l1 (l1.length : Int) x22_1 (t232 != 0) x226000_1 x226001_1 x226002_1 ((rd_T45 l1 x22_1).f0) ((rd_T45 l1 x22_1).f1.f0) ((rd_T45 l1 x22_1).f1.f1) ((rd_T45 l1 x22_1).f1.f2)))))) else (sapperref17_Join.j1 k1 a0 l1 x7_1 l1 (l1.length : Int) x22_1 true x226000_1 x226001_1 x226002_1 ((rd_T45 l1 x22_1).f0) ((rd_T45 l1 x22_1).f1.f0) ((rd_T45 l1 x22_1).f1.f1) ((rd_T45 l1 x22_1).f1.f2))) = some (r1, r2, r3, r4) := H
              have A10 := Aside0.mk A100
              clear A100
              have HC11 := Aside0.mk H
              clear H
              have p226 : 0 ≤ (x22_1 : Int) := of_decide_eq_true (by first | (with_reducible assumption) | assumption)
              have q226 : x22_1 < (l1.length : Int) := of_decide_eq_true (by first | (with_reducible assumption) | assumption)
              obtain ⟨ad226, A226_1, c226_1, A226_2, c226_2, A226_3, c226_3, e226, hx226_0, hx226_1, hx226_2, hx226_3, hl226_1, hi226_1, hl226_2, hi226_2, hl226_3, hi226_3⟩ := at_T45 HR1.out x22_1 p226 q226
              cases e226
              replace hx226_0 := (HB.out.cell (World.block_lt_of_cell? w _ hx226_0)).trans hx226_0
              replace hx226_1 := (HB.out.cell (World.block_lt_of_cell? w _ hx226_1)).trans hx226_1
              replace hx226_2 := (HB.out.cell (World.block_lt_of_cell? w _ hx226_2)).trans hx226_2
              replace hx226_3 := (HB.out.cell (World.block_lt_of_cell? w _ hx226_3)).trans hx226_3
              have HR226_1 := Aside0.mk hi226_1
              have HC226_1 := Aside0.mk hl226_1
              clear hi226_1 hl226_1
              have HR226_2 := Aside0.mk hi226_2
              have HC226_2 := Aside0.mk hl226_2
              clear hi226_2 hl226_2
              have HR226_3 := Aside0.mk hi226_3
              have HC226_3 := Aside0.mk hl226_3
              clear hi226_3 hl226_3
              replace p226 := eq_true p226
              replace q226 := eq_true q226
              go_upto_region 10 with (first | ((with_reducible refine gate_dst (N := 9) rfl ?_); (try (refine gate_guard (by rfl) ?_; dsimp only)); refine box_event ?hg (N := 9) ?hd (cs := #[.int .i64 0, .slice none 0 0, .slice none 0 0, .slice none 0 0]) (t := 45) ?hr ?_; (case hd => rfl); (case hg => rfl); (case hr => first | (go_simp; done) | (go_simp; rfl)); intro gb227 hg w12 hbox hb; have n0_ := Aside0.mk (Kd.R_below (by (with_reducible repeat (first | apply Kd.R_alloc | apply Kd.R_drewN | apply Kd.R_drew)); exact HO_226000.out) hb); have n1_ := Aside0.mk (Kd.R_below (by (with_reducible repeat (first | apply Kd.R_alloc | apply Kd.R_drewN | apply Kd.R_drew)); exact HO_226001.out) hb); have n2_ := Aside0.mk (Kd.R_below (by (with_reducible repeat (first | apply Kd.R_alloc | apply Kd.R_drewN | apply Kd.R_drew)); exact HO_226002.out) hb); have n3_ := Aside0.mk (blk_below (g := gb223) (o := .cells #[.slice none 0 0, .slice none 0 0, .slice none 0 0] 26 (0, 0)) (by (with_reducible repeat (first | refine blk_drewN ?_ _ | refine blk_drew ?_ | refine blk_alloc ?_ _)); exact BK223.out) hb); have n4_ := Aside0.mk (blk_below (g := gb225) (o := .cells #[u226000, u226001, u226002] 26 (0, 0)) (by (with_reducible repeat (first | refine blk_drewN ?_ _ | refine blk_drew ?_ | refine blk_alloc ?_ _)); exact BK225.out) hb); have n5_ := Aside0.mk (below_step (by repeat (first | (with_reducible first | exact HB.out | apply below_alloc | apply pw_below_drewN | apply below_drew1 | refine below_set ?_ GE223.out | refine below_set ?_ GE225.out) | exact HB.out)) hb); have n6_ := Aside0.mk (hbox); have n7_ := Aside0.mk ((by rw [hg]; exact (below_size (by repeat (first | (with_reducible first | exact HB.out | apply below_alloc | apply pw_below_drewN | apply below_drew1 | refine below_set ?_ GE223.out | refine below_set ?_ GE225.out) | exact HB.out))) : w.heap.size ≤ gb227)); have n8_ := Aside0.mk ((by rw [hg]; exact (below_size (by repeat (first | (with_reducible first | exact HB.out | apply below_alloc | apply pw_below_drewN | apply below_drew1 | refine below_set ?_ GE223.out | refine below_set ?_ GE225.out) | exact HB.out))) : w.heap.size ≤ gb227)); have n9_ := Aside0.mk ((by rw [hg]; exact Nat.ne_of_lt (blk_lt (g := gb223) (o := .cells #[.slice none 0 0, .slice none 0 0, .slice none 0 0] 26 (0, 0)) (by (with_reducible repeat (first | refine blk_drewN ?_ _ | refine blk_drew ?_ | refine blk_alloc ?_ _)); exact BK223.out)) : gb223 ≠ gb227)); have n10_ := Aside0.mk ((by rw [hg]; exact Nat.ne_of_gt (blk_lt (g := gb223) (o := .cells #[.slice none 0 0, .slice none 0 0, .slice none 0 0] 26 (0, 0)) (by (with_reducible repeat (first | refine blk_drewN ?_ _ | refine blk_drew ?_ | refine blk_alloc ?_ _)); exact BK223.out)) : gb227 ≠ gb223)); have n11_ := Aside0.mk ((by rw [hg]; exact Nat.ne_of_lt (blk_lt (g := gb225) (o := .cells #[u226000, u226001, u226002] 26 (0, 0)) (by (with_reducible repeat (first | refine blk_drewN ?_ _ | refine blk_drew ?_ | refine blk_alloc ?_ _)); exact BK225.out)) : gb225 ≠ gb227)); have n12_ := Aside0.mk ((by rw [hg]; exact Nat.ne_of_gt (blk_lt (g := gb225) (o := .cells #[u226000, u226001, u226002] 26 (0, 0)) (by (with_reducible repeat (first | refine blk_drewN ?_ _ | refine blk_drew ?_ | refine blk_alloc ?_ _)); exact BK225.out)) : gb227 ≠ gb225)); clear HO_226000; clear HO_226001; clear HO_226002; clear BK223; clear BK225; clear HB; have HO_226000 := n0_; have HO_226001 := n1_; have HO_226002 := n2_; have BK223 := n3_; have BK225 := n4_; have HB := n5_; have BK227 := n6_; have GW227 := n7_; have GE227 := n8_; have NB223_227 := n9_; have NB227_223 := n10_; have NB225_227 := n11_; have NB227_225 := n12_; clear n0_ n1_ n2_ n3_ n4_ n5_ n6_ n7_ n8_ n9_ n10_ n11_ n12_; clear hb hbox hg; have hnb13 := NB227_223.out; have hnc13 := NB223_227.out; have hnb14 := NB227_225.out; have hnc14 := NB225_227.out; have hcz15_0 : w12.cell? ⟨gb227, 0, none⟩ = some (.int .i64 0) := (blk_cell BK227.out 0).trans rfl; have hcz15_1 : w12.cell? ⟨gb227, 1, none⟩ = some (.slice none 0 0) := (blk_cell BK227.out 1).trans rfl; have hcz15_2 : w12.cell? ⟨gb227, 2, none⟩ = some (.slice none 0 0) := (blk_cell BK227.out 2).trans rfl; have hcz15_3 : w12.cell? ⟨gb227, 3, none⟩ = some (.slice none 0 0) := (blk_cell BK227.out 3).trans rfl; have hfz15_0 := blk_frozen BK227.out 0; have hfz15_1 := blk_frozen BK227.out 1; have hfz15_2 := blk_frozen BK227.out 2; have hfz15_3 := blk_frozen BK227.out 3) | ((with_reducible refine gate_callee (f := 48) rfl ?_); refine goesL_ (some 31) rfl rfl Try.func48 (by kernel_rfl) rfl #[.slice A226_1 ((rd_T45 l1 x22_1).f1.f0).length c226_1] rfl (by (try simp only [List.map_toArray, List.map_cons, List.map_nil]); first | done | rfl | (simp only [List.length_drop, List.length_take]; rfl)) ?_; (with_reducible refine (sapperref17_Sums.calls k1 _ _ ((rd_T45 l1 x22_1).f1.f0) t228 t229 t230 _ ?side1 ?side2 A10.out).mono ?_); (case side1 => exact Kd.C_below HR226_1.out (by repeat (first | (with_reducible first | exact HB.out | apply below_alloc | apply pw_below_drewN | apply below_drew1 | refine below_set ?_ GE223.out | refine below_set ?_ GE225.out | refine below_set ?_ GE227.out) | exact HB.out))); (case side2 => exact HC226_1.out); rintro e w16 ⟨rfl, hb⟩; refine ⟨_, rfl, ?_⟩; have n0_ := Aside0.mk (Kd.R_below (by (with_reducible repeat (first | apply Kd.R_alloc | apply Kd.R_drewN | apply Kd.R_drew)); exact (Kd.R_mono (Kd.R_far (p := ⟨gb227, 3, none⟩) (Kd.R_far (p := ⟨gb227, 2, none⟩) (Kd.R_far (p := ⟨gb227, 1, none⟩) (Kd.R_far (p := ⟨gb227, 0, none⟩) (Kd.R_types HO_226000.out BK227.out (by decide)) (fun _ hk => hk.2) (.int .i64 ((rd_T45 l1 x22_1).f0))) (fun _ hk => hk.2) (.slice A226_1 ((rd_T45 l1 x22_1).f1.f0).length c226_1)) (fun _ hk => hk.2) (.slice A226_2 ((rd_T45 l1 x22_1).f1.f1).length c226_2)) (fun _ hk => hk.2) (.slice A226_3 ((rd_T45 l1 x22_1).f1.f2).length c226_3)) (fun _ h_ => h_.1))) hb); have n1_ := Aside0.mk (Kd.R_below (by (with_reducible repeat (first | apply Kd.R_alloc | apply Kd.R_drewN | apply Kd.R_drew)); exact (Kd.R_mono (Kd.R_far (p := ⟨gb227, 3, none⟩) (Kd.R_far (p := ⟨gb227, 2, none⟩) (Kd.R_far (p := ⟨gb227, 1, none⟩) (Kd.R_far (p := ⟨gb227, 0, none⟩) (Kd.R_types HO_226001.out BK227.out (by decide)) (fun _ hk => hk.2) (.int .i64 ((rd_T45 l1 x22_1).f0))) (fun _ hk => hk.2) (.slice A226_1 ((rd_T45 l1 x22_1).f1.f0).length c226_1)) (fun _ hk => hk.2) (.slice A226_2 ((rd_T45 l1 x22_1).f1.f1).length c226_2)) (fun _ hk => hk.2) (.slice A226_3 ((rd_T45 l1 x22_1).f1.f2).length c226_3)) (fun _ h_ => h_.1))) hb); have n2_ := Aside0.mk (Kd.R_below (by (with_reducible repeat (first | apply Kd.R_alloc | apply Kd.R_drewN | apply Kd.R_drew)); exact (Kd.R_mono (Kd.R_far (p := ⟨gb227, 3, none⟩) (Kd.R_far (p := ⟨gb227, 2, none⟩) (Kd.R_far (p := ⟨gb227, 1, none⟩) (Kd.R_far (p := ⟨gb227, 0, none⟩) (Kd.R_types HO_226002.out BK227.out (by decide)) (fun _ hk => hk.2) (.int .i64 ((rd_T45 l1 x22_1).f0))) (fun _ hk => hk.2) (.slice A226_1 ((rd_T45 l1 x22_1).f1.f0).length c226_1)) (fun _ hk => hk.2) (.slice A226_2 ((rd_T45 l1 x22_1).f1.f1).length c226_2)) (fun _ hk => hk.2) (.slice A226_3 ((rd_T45 l1 x22_1).f1.f2).length c226_3)) (fun _ h_ => h_.1))) hb); have n3_ := Aside0.mk (blk_below (g := gb223) (o := .cells #[.slice none 0 0, .slice none 0 0, .slice none 0 0] 26 (0, 0)) (by (with_reducible repeat (first | refine blk_drewN ?_ _ | refine blk_drew ?_ | refine blk_alloc ?_ _)); refine blk_far ?_ NB223_227.out _; (with_reducible repeat (first | refine blk_drewN ?_ _ | refine blk_drew ?_ | refine blk_alloc ?_ _)); refine blk_far ?_ NB223_227.out _; (with_reducible repeat (first | refine blk_drewN ?_ _ | refine blk_drew ?_ | refine blk_alloc ?_ _)); refine blk_far ?_ NB223_227.out _; (with_reducible repeat (first | refine blk_drewN ?_ _ | refine blk_drew ?_ | refine blk_alloc ?_ _)); refine blk_far ?_ NB223_227.out _; (with_reducible repeat (first | refine blk_drewN ?_ _ | refine blk_drew ?_ | refine blk_alloc ?_ _)); exact BK223.out) hb); have n4_ := Aside0.mk (blk_below (g := gb225) (o := .cells #[u226000, u226001, u226002] 26 (0, 0)) (by (with_reducible repeat (first | refine blk_drewN ?_ _ | refine blk_drew ?_ | refine blk_alloc ?_ _)); refine blk_far ?_ NB225_227.out _; (with_reducible repeat (first | refine blk_drewN ?_ _ | refine blk_drew ?_ | refine blk_alloc ?_ _)); refine blk_far ?_ NB225_227.out _; (with_reducible repeat (first | refine blk_drewN ?_ _ | refine blk_drew ?_ | refine blk_alloc ?_ _)); refine blk_far ?_ NB225_227.out _; (with_reducible repeat (first | refine blk_drewN ?_ _ | refine blk_drew ?_ | refine blk_alloc ?_ _)); refine blk_far ?_ NB225_227.out _; (with_reducible repeat (first | refine blk_drewN ?_ _ | refine blk_drew ?_ | refine blk_alloc ?_ _)); exact BK225.out) hb); have n5_ := Aside0.mk (blk_below (g := gb227) (o := .cells #[.int .i64 ((rd_T45 l1 x22_1).f0), .slice A226_1 ((rd_T45 l1 x22_1).f1.f0).length c226_1, .slice A226_2 ((rd_T45 l1 x22_1).f1.f1).length c226_2, .slice A226_3 ((rd_T45 l1 x22_1).f1.f2).length c226_3] 45 (0, 0)) (by (with_reducible repeat (first | refine blk_drewN ?_ _ | refine blk_drew ?_ | refine blk_alloc ?_ _)); refine blk_put (cs := #[.int .i64 ((rd_T45 l1 x22_1).f0), .slice A226_1 ((rd_T45 l1 x22_1).f1.f0).length c226_1, .slice A226_2 ((rd_T45 l1 x22_1).f1.f1).length c226_2, .slice none 0 0]) ?_ 3 _ rfl; (with_reducible repeat (first | refine blk_drewN ?_ _ | refine blk_drew ?_ | refine blk_alloc ?_ _)); refine blk_put (cs := #[.int .i64 ((rd_T45 l1 x22_1).f0), .slice A226_1 ((rd_T45 l1 x22_1).f1.f0).length c226_1, .slice none 0 0, .slice none 0 0]) ?_ 2 _ rfl; (with_reducible repeat (first | refine blk_drewN ?_ _ | refine blk_drew ?_ | refine blk_alloc ?_ _)); refine blk_put (cs := #[.int .i64 ((rd_T45 l1 x22_1).f0), .slice none 0 0, .slice none 0 0, .slice none 0 0]) ?_ 1 _ rfl; (with_reducible repeat (first | refine blk_drewN ?_ _ | refine blk_drew ?_ | refine blk_alloc ?_ _)); refine blk_put (cs := #[.int .i64 0, .slice none 0 0, .slice none 0 0, .slice none 0 0]) ?_ 0 _ rfl; (with_reducible repeat (first | refine blk_drewN ?_ _ | refine blk_drew ?_ | refine blk_alloc ?_ _)); exact BK227.out) hb); have n6_ := Aside0.mk (below_step (by repeat (first | (with_reducible first | exact HB.out | apply below_alloc | apply pw_below_drewN | apply below_drew1 | refine below_set ?_ GE223.out | refine below_set ?_ GE225.out | refine below_set ?_ GE227.out) | exact HB.out)) hb); clear HO_226000; clear HO_226001; clear HO_226002; clear BK223; clear BK225; clear BK227; clear HB; have HO_226000 := n0_; have HO_226001 := n1_; have HO_226002 := n2_; have BK223 := n3_; have BK225 := n4_; have BK227 := n5_; have HB := n6_; clear n0_ n1_ n2_ n3_ n4_ n5_ n6_; (try clear hb); (try clear hb2); (try clear hk); (try clear hi)))
              (try simp only [Act.put, List.setIfInBounds_toArray, List.set_cons_zero, List.set_cons_succ])
              go_cut [66] (fun v66 wc => ∃ (kq : Nat) (x66_10 : Bool), v66 = .bool x66_10 ∧ Aside0 (sapperref17_Join.j1 kq a0 l1 x7_1 l1 (l1.length : Int) x22_1 x66_10 x226000_1 x226001_1 x226002_1 ((rd_T45 l1 x22_1).f0) ((rd_T45 l1 x22_1).f1.f0) ((rd_T45 l1 x22_1).f1.f1) ((rd_T45 l1 x22_1).f1.f2) = some (r1, r2, r3, r4)) ∧ Aside0 (kq ≤ k1) ∧ Aside0 (Kd.R k81 81 wc w.heap.size (fun _ => True) u226000 x226000_1) ∧ Aside0 (Kd.R (Kd.int .u8) 5 wc w.heap.size (fun k_ => some k_ ≠ (u226002 : Value).ownBlock) u226001 x226001_1) ∧ Aside0 (Kd.R (Kd.int .u8) 5 wc w.heap.size (fun k_ => some k_ ≠ (u226001 : Value).ownBlock) u226002 x226002_1) ∧ Aside0 (wc.heap[gb223]? = some (.cells #[(.slice none 0 0), (.slice none 0 0), (.slice none 0 0)] 26 (0, 0))) ∧ Aside0 (wc.heap[gb225]? = some (.cells #[u226000, u226001, u226002] 26 (0, 0))) ∧ Aside0 (wc.heap[gb227]? = some (.cells #[.int .i64 ((rd_T45 l1 x22_1).f0), (.slice A226_1 ((rd_T45 l1 x22_1).f1.f0).length c226_1), (.slice A226_2 ((rd_T45 l1 x22_1).f1.f1).length c226_2), (.slice A226_3 ((rd_T45 l1 x22_1).f1.f2).length c226_3)] 45 (0, 0))) ∧ Aside0 (Below w.heap.size w wc))
              case first =>
                have H := HC11.out
                clear HC11
                by_cases c17 : t230 = true
                · subst c17
                  have H1 : (if x22_1 < (wrap64 ((l1.length : Int) - 1)) then (if (wrap64 (t228 + t229)) = a0 then (if (wrap64 (t228 + t229)) < 1 then (sapperref17_Join.j1 k1 a0 l1 x7_1 l1 (l1.length : Int) x22_1 true x226000_1 x226001_1 x226002_1 ((rd_T45 l1 x22_1).f0) ((rd_T45 l1 x22_1).f1.f0) ((rd_T45 l1 x22_1).f1.f1) ((rd_T45 l1 x22_1).f1.f2)) else (if (wrap64 (t228 + t229)) > a0 then (sapperref17_Join.j1 k1 a0 l1 x7_1 l1 (l1.length : Int) x22_1 true x226000_1 x226001_1 x226002_1 ((rd_T45 l1 x22_1).f0) ((rd_T45 l1 x22_1).f1.f0) ((rd_T45 l1 x22_1).f1.f1) ((rd_T45 l1 x22_1).f1.f2)) else ((sapperref17_Check.f k1 ((rd_T45 l1 x22_1).f0) ((rd_T45 l1 x22_1).f1.f0) ((rd_T45 l1 x22_1).f1.f1) ((rd_T45 l1 x22_1).f1.f2) 16777216 (wrap64 (t228 + t229))).bind fun t231 => (sapperref17_Join.j1 k1 a0 l1 x7_1 l1 (l1.length : Int) x22_1 (t231 != 0) x226000_1 x226001_1 x226002_1 ((rd_T45 l1 x22_1).f0) ((rd_T45 l1 x22_1).f1.f0) ((rd_T45 l1 x22_1).f1.f1) ((rd_T45 l1 x22_1).f1.f2))))) else (sapperref17_Join.j1 k1 a0 l1 x7_1 l1 (l1.length : Int) x22_1 true x226000_1 x226001_1 x226002_1 ((rd_T45 l1 x22_1).f0) ((rd_T45 l1 x22_1).f1.f0) ((rd_T45 l1 x22_1).f1.f1) ((rd_T45 l1 x22_1).f1.f2))) else (if (wrap64 (t228 + t229)) < 1 then (sapperref17_Join.j1 k1 a0 l1 x7_1 l1 (l1.length : Int) x22_1 true x226000_1 x226001_1 x226002_1 ((rd_T45 l1 x22_1).f0) ((rd_T45 l1 x22_1).f1.f0) ((rd_T45 l1 x22_1).f1.f1) ((rd_T45 l1 x22_1).f1.f2)) else (if (wrap64 (t228 + t229)) > a0 then (sapperref17_Join.j1 k1 a0 l1 x7_1 l1 (l1.length : Int) x22_1 true x226000_1 x226001_1 x226002_1 ((rd_T45 l1 x22_1).f0) ((rd_T45 l1 x22_1).f1.f0) ((rd_T45 l1 x22_1).f1.f1) ((rd_T45 l1 x22_1).f1.f2)) else ((sapperref17_Check.f k1 ((rd_T45 l1 x22_1).f0) ((rd_T45 l1 x22_1).f1.f0) ((rd_T45 l1 x22_1).f1.f1) ((rd_T45 l1 x22_1).f1.f2) 16777216 (wrap64 (t228 + t229))).bind fun t232 => (sapperref17_Join.j1 k1 a0 l1 x7_1 l1 (l1.length : Int) x22_1 (t232 != 0) x226000_1 x226001_1 x226002_1 ((rd_T45 l1 x22_1).f0) ((rd_T45 l1 x22_1).f1.f0) ((rd_T45 l1 x22_1).f1.f1) ((rd_T45 l1 x22_1).f1.f2)))))) = some (r1, r2, r3, r4) := by rw [if_pos rfl] at H; exact H
                  clear H
                  have H := H1
                  clear H1
                  by_cases c18 : x22_1 < (wrap64 ((l1.length : Int) - 1))
                  · rw [if_pos c18] at H
                    have c18b0 : decide (x22_1 < (wrap64 ((l1.length : Int) - 1))) = true := decide_eq_true c18
                    clear c18
                    (first | rw [c18b0] | (simp only [i64_w, i32_w]; rw [c18b0]) | skip)
                    by_cases c19 : (wrap64 (t228 + t229)) = a0
                    · rw [if_pos c19] at H
                      have c19b0 : ((wrap64 (t228 + t229)) == a0) = true := beq_iff_eq.mpr c19
                      have c19b1 : ((wrap64 (t228 + t229)) != a0) = false := bne_eq_false_iff_eq.mpr c19
                      clear c19
                      by_cases c20 : (wrap64 (t228 + t229)) < 1
                      · rw [if_pos c20] at H
                        have c20b0 : decide ((wrap64 (t228 + t229)) < 1) = true := decide_eq_true c20
                        clear c20
                        have H' := Aside0.mk H
                        clear H
                        go_wp2
                        go_meet
                        case rel => exact ⟨_, (true), (by first | rfl | (simp; done) | (simp [*]; done)), H', ⟨by have := HK1.out; first | omega | exact Nat.le_refl _⟩, ⟨by (with_reducible repeat (first | apply Kd.R_alloc | apply Kd.R_drewN | apply Kd.R_drew)); exact HO_226000.out⟩, ⟨by (with_reducible repeat (first | apply Kd.R_alloc | apply Kd.R_drewN | apply Kd.R_drew)); exact HO_226001.out⟩, ⟨by (with_reducible repeat (first | apply Kd.R_alloc | apply Kd.R_drewN | apply Kd.R_drew)); exact HO_226002.out⟩, ⟨by (with_reducible repeat (first | refine blk_drewN ?_ _ | refine blk_drew ?_ | refine blk_alloc ?_ _)); exact BK223.out⟩, ⟨by (with_reducible repeat (first | refine blk_drewN ?_ _ | refine blk_drew ?_ | refine blk_alloc ?_ _)); exact BK225.out⟩, ⟨by (with_reducible repeat (first | refine blk_drewN ?_ _ | refine blk_drew ?_ | refine blk_alloc ?_ _)); exact BK227.out⟩, ⟨by repeat (first | (with_reducible first | exact HB.out | apply below_alloc | apply pw_below_drewN | apply below_drew1 | refine below_set ?_ GE223.out | refine below_set ?_ GE225.out | refine below_set ?_ GE227.out) | exact HB.out)⟩⟩
                      · rw [if_neg c20] at H
                        have c20b0 : decide ((wrap64 (t228 + t229)) < 1) = false := decide_eq_false c20
                        clear c20
                        by_cases c21 : (wrap64 (t228 + t229)) > a0
                        · rw [if_pos c21] at H
                          have c21b0 : decide (a0 < (wrap64 (t228 + t229))) = true := decide_eq_true c21
                          clear c21
                          have H' := Aside0.mk H
                          clear H
                          go_wp2
                          go_meet
                          case rel => exact ⟨_, (true), (by first | rfl | (simp; done) | (simp [*]; done)), H', ⟨by have := HK1.out; first | omega | exact Nat.le_refl _⟩, ⟨by (with_reducible repeat (first | apply Kd.R_alloc | apply Kd.R_drewN | apply Kd.R_drew)); exact HO_226000.out⟩, ⟨by (with_reducible repeat (first | apply Kd.R_alloc | apply Kd.R_drewN | apply Kd.R_drew)); exact HO_226001.out⟩, ⟨by (with_reducible repeat (first | apply Kd.R_alloc | apply Kd.R_drewN | apply Kd.R_drew)); exact HO_226002.out⟩, ⟨by (with_reducible repeat (first | refine blk_drewN ?_ _ | refine blk_drew ?_ | refine blk_alloc ?_ _)); exact BK223.out⟩, ⟨by (with_reducible repeat (first | refine blk_drewN ?_ _ | refine blk_drew ?_ | refine blk_alloc ?_ _)); exact BK225.out⟩, ⟨by (with_reducible repeat (first | refine blk_drewN ?_ _ | refine blk_drew ?_ | refine blk_alloc ?_ _)); exact BK227.out⟩, ⟨by repeat (first | (with_reducible first | exact HB.out | apply below_alloc | apply pw_below_drewN | apply below_drew1 | refine below_set ?_ GE223.out | refine below_set ?_ GE225.out | refine below_set ?_ GE227.out) | exact HB.out)⟩⟩
                        · rw [if_neg c21] at H
                          have c21b0 : decide (a0 < (wrap64 (t228 + t229))) = false := decide_eq_false c21
                          clear c21
                          replace H := Option.bind_eq_some_iff.mp H
                          obtain ⟨t231, A220, H⟩ := H
                          replace H : (sapperref17_Join.j1 k1 a0 l1 x7_1 l1 (l1.length : Int) x22_1 (t231 != 0) x226000_1 x226001_1 x226002_1 ((rd_T45 l1 x22_1).f0) ((rd_T45 l1 x22_1).f1.f0) ((rd_T45 l1 x22_1).f1.f1) ((rd_T45 l1 x22_1).f1.f2)) = some (r1, r2, r3, r4) := H
                          have A22 := Aside0.mk A220
                          clear A220
                          have H' := Aside0.mk H
                          clear H
                          have hnb23 := NB227_223.out
                          have hnc23 := NB223_227.out
                          have hnb24 := NB227_225.out
                          have hnc24 := NB225_227.out
                          have hcz25_0 : w16.cell? ⟨gb227, 0, none⟩ = some (.int .i64 ((rd_T45 l1 x22_1).f0)) := (blk_cell BK227.out 0).trans rfl
                          have hcz25_1 : w16.cell? ⟨gb227, 1, none⟩ = some (.slice A226_1 ((rd_T45 l1 x22_1).f1.f0).length c226_1) := (blk_cell BK227.out 1).trans rfl
                          have hcz25_2 : w16.cell? ⟨gb227, 2, none⟩ = some (.slice A226_2 ((rd_T45 l1 x22_1).f1.f1).length c226_2) := (blk_cell BK227.out 2).trans rfl
                          have hcz25_3 : w16.cell? ⟨gb227, 3, none⟩ = some (.slice A226_3 ((rd_T45 l1 x22_1).f1.f2).length c226_3) := (blk_cell BK227.out 3).trans rfl
                          have hfz25_0 := blk_frozen BK227.out 0
                          have hfz25_1 := blk_frozen BK227.out 1
                          have hfz25_2 := blk_frozen BK227.out 2
                          have hfz25_3 := blk_frozen BK227.out 3
                          go_wp2_with (first | (go_at_call 21; (with_reducible refine (sapperref17_Check.calls k1 ((rd_T45 l1 x22_1).f0) _ _ ((rd_T45 l1 x22_1).f1.f0) _ _ ((rd_T45 l1 x22_1).f1.f1) _ _ ((rd_T45 l1 x22_1).f1.f2) 16777216 (wrap64 (t228 + t229)) t231 _ ?side1 ?side2 ?side3 ?side4 ?side5 ?side6 A22.out).mono ?_); (case side1 => repeat (first | exact (Kd.C_below HR226_1.out HB.out) | (with_reducible refine Kd.C_alloc ?_ _) | (with_reducible refine Kd.C_drewN ?_ _) | (with_reducible refine Kd.C_drew ?_))); (case side2 => exact HC226_1.out); (case side3 => repeat (first | exact (Kd.C_below HR226_2.out HB.out) | (with_reducible refine Kd.C_alloc ?_ _) | (with_reducible refine Kd.C_drewN ?_ _) | (with_reducible refine Kd.C_drew ?_))); (case side4 => exact HC226_2.out); (case side5 => repeat (first | exact (Kd.C_below HR226_3.out HB.out) | (with_reducible refine Kd.C_alloc ?_ _) | (with_reducible refine Kd.C_drewN ?_ _) | (with_reducible refine Kd.C_drew ?_))); (case side6 => exact HC226_3.out); rintro e w26 ⟨rfl, hb⟩; have n0_ := Aside0.mk (Kd.R_below (by (with_reducible repeat (first | apply Kd.R_alloc | apply Kd.R_drewN | apply Kd.R_drew)); exact HO_226000.out) hb); have n1_ := Aside0.mk (Kd.R_below (by (with_reducible repeat (first | apply Kd.R_alloc | apply Kd.R_drewN | apply Kd.R_drew)); exact HO_226001.out) hb); have n2_ := Aside0.mk (Kd.R_below (by (with_reducible repeat (first | apply Kd.R_alloc | apply Kd.R_drewN | apply Kd.R_drew)); exact HO_226002.out) hb); have n3_ := Aside0.mk (blk_below (g := gb223) (o := .cells #[.slice none 0 0, .slice none 0 0, .slice none 0 0] 26 (0, 0)) (by (with_reducible repeat (first | refine blk_drewN ?_ _ | refine blk_drew ?_ | refine blk_alloc ?_ _)); exact BK223.out) hb); have n4_ := Aside0.mk (blk_below (g := gb225) (o := .cells #[u226000, u226001, u226002] 26 (0, 0)) (by (with_reducible repeat (first | refine blk_drewN ?_ _ | refine blk_drew ?_ | refine blk_alloc ?_ _)); exact BK225.out) hb); have n5_ := Aside0.mk (blk_below (g := gb227) (o := .cells #[.int .i64 ((rd_T45 l1 x22_1).f0), .slice A226_1 ((rd_T45 l1 x22_1).f1.f0).length c226_1, .slice A226_2 ((rd_T45 l1 x22_1).f1.f1).length c226_2, .slice A226_3 ((rd_T45 l1 x22_1).f1.f2).length c226_3] 45 (0, 0)) (by (with_reducible repeat (first | refine blk_drewN ?_ _ | refine blk_drew ?_ | refine blk_alloc ?_ _)); exact BK227.out) hb); have n6_ := Aside0.mk (below_step (by repeat (first | (with_reducible first | exact HB.out | apply below_alloc | apply pw_below_drewN | apply below_drew1 | refine below_set ?_ GE223.out | refine below_set ?_ GE225.out | refine below_set ?_ GE227.out) | exact HB.out)) hb); clear HO_226000; clear HO_226001; clear HO_226002; clear BK223; clear BK225; clear BK227; clear HB; have HO_226000 := n0_; have HO_226001 := n1_; have HO_226002 := n2_; have BK223 := n3_; have BK225 := n4_; have BK227 := n5_; have HB := n6_; clear n0_ n1_ n2_ n3_ n4_ n5_ n6_; (try clear hb); (try clear hb2); (try clear hk); (try clear hi)))
                          go_meet
                          case rel => exact ⟨_, ((t231 != 0)), (by first | rfl | (simp; done) | (simp [*]; done)), H', ⟨by have := HK1.out; first | omega | exact Nat.le_refl _⟩, ⟨by (with_reducible repeat (first | apply Kd.R_alloc | apply Kd.R_drewN | apply Kd.R_drew)); exact HO_226000.out⟩, ⟨by (with_reducible repeat (first | apply Kd.R_alloc | apply Kd.R_drewN | apply Kd.R_drew)); exact HO_226001.out⟩, ⟨by (with_reducible repeat (first | apply Kd.R_alloc | apply Kd.R_drewN | apply Kd.R_drew)); exact HO_226002.out⟩, ⟨by (with_reducible repeat (first | refine blk_drewN ?_ _ | refine blk_drew ?_ | refine blk_alloc ?_ _)); exact BK223.out⟩, ⟨by (with_reducible repeat (first | refine blk_drewN ?_ _ | refine blk_drew ?_ | refine blk_alloc ?_ _)); exact BK225.out⟩, ⟨by (with_reducible repeat (first | refine blk_drewN ?_ _ | refine blk_drew ?_ | refine blk_alloc ?_ _)); exact BK227.out⟩, ⟨by repeat (first | (with_reducible first | exact HB.out | apply below_alloc | apply pw_below_drewN | apply below_drew1 | refine below_set ?_ GE223.out | refine below_set ?_ GE225.out | refine below_set ?_ GE227.out) | exact HB.out)⟩⟩
                    · rw [if_neg c19] at H
                      have c19b0 : ((wrap64 (t228 + t229)) == a0) = false := beq_eq_false_iff_ne.mpr c19
                      have c19b1 : ((wrap64 (t228 + t229)) != a0) = true := bne_iff_ne.mpr c19
                      have H' := Aside0.mk H
                      clear H
                      go_wp2
                      go_meet
                      case rel => exact ⟨_, (true), (by first | rfl | (simp; done) | (simp [*]; done)), H', ⟨by have := HK1.out; first | omega | exact Nat.le_refl _⟩, ⟨by (with_reducible repeat (first | apply Kd.R_alloc | apply Kd.R_drewN | apply Kd.R_drew)); exact HO_226000.out⟩, ⟨by (with_reducible repeat (first | apply Kd.R_alloc | apply Kd.R_drewN | apply Kd.R_drew)); exact HO_226001.out⟩, ⟨by (with_reducible repeat (first | apply Kd.R_alloc | apply Kd.R_drewN | apply Kd.R_drew)); exact HO_226002.out⟩, ⟨by (with_reducible repeat (first | refine blk_drewN ?_ _ | refine blk_drew ?_ | refine blk_alloc ?_ _)); exact BK223.out⟩, ⟨by (with_reducible repeat (first | refine blk_drewN ?_ _ | refine blk_drew ?_ | refine blk_alloc ?_ _)); exact BK225.out⟩, ⟨by (with_reducible repeat (first | refine blk_drewN ?_ _ | refine blk_drew ?_ | refine blk_alloc ?_ _)); exact BK227.out⟩, ⟨by repeat (first | (with_reducible first | exact HB.out | apply below_alloc | apply pw_below_drewN | apply below_drew1 | refine below_set ?_ GE223.out | refine below_set ?_ GE225.out | refine below_set ?_ GE227.out) | exact HB.out)⟩⟩
                  · rw [if_neg c18] at H
                    have c18b0 : decide (x22_1 < (wrap64 ((l1.length : Int) - 1))) = false := decide_eq_false c18
                    clear c18
                    (first | rw [c18b0] | (simp only [i64_w, i32_w]; rw [c18b0]) | skip)
                    by_cases c27 : (wrap64 (t228 + t229)) < 1
                    · rw [if_pos c27] at H
                      have c27b0 : decide ((wrap64 (t228 + t229)) < 1) = true := decide_eq_true c27
                      clear c27
                      have H' := Aside0.mk H
                      clear H
                      go_wp2
                      go_meet
                      case rel => exact ⟨_, (true), (by first | rfl | (simp; done) | (simp [*]; done)), H', ⟨by have := HK1.out; first | omega | exact Nat.le_refl _⟩, ⟨by (with_reducible repeat (first | apply Kd.R_alloc | apply Kd.R_drewN | apply Kd.R_drew)); exact HO_226000.out⟩, ⟨by (with_reducible repeat (first | apply Kd.R_alloc | apply Kd.R_drewN | apply Kd.R_drew)); exact HO_226001.out⟩, ⟨by (with_reducible repeat (first | apply Kd.R_alloc | apply Kd.R_drewN | apply Kd.R_drew)); exact HO_226002.out⟩, ⟨by (with_reducible repeat (first | refine blk_drewN ?_ _ | refine blk_drew ?_ | refine blk_alloc ?_ _)); exact BK223.out⟩, ⟨by (with_reducible repeat (first | refine blk_drewN ?_ _ | refine blk_drew ?_ | refine blk_alloc ?_ _)); exact BK225.out⟩, ⟨by (with_reducible repeat (first | refine blk_drewN ?_ _ | refine blk_drew ?_ | refine blk_alloc ?_ _)); exact BK227.out⟩, ⟨by repeat (first | (with_reducible first | exact HB.out | apply below_alloc | apply pw_below_drewN | apply below_drew1 | refine below_set ?_ GE223.out | refine below_set ?_ GE225.out | refine below_set ?_ GE227.out) | exact HB.out)⟩⟩
                    · rw [if_neg c27] at H
                      have c27b0 : decide ((wrap64 (t228 + t229)) < 1) = false := decide_eq_false c27
                      clear c27
                      by_cases c28 : (wrap64 (t228 + t229)) > a0
                      · rw [if_pos c28] at H
                        have c28b0 : decide (a0 < (wrap64 (t228 + t229))) = true := decide_eq_true c28
                        clear c28
                        have H' := Aside0.mk H
                        clear H
                        go_wp2
                        go_meet
                        case rel => exact ⟨_, (true), (by first | rfl | (simp; done) | (simp [*]; done)), H', ⟨by have := HK1.out; first | omega | exact Nat.le_refl _⟩, ⟨by (with_reducible repeat (first | apply Kd.R_alloc | apply Kd.R_drewN | apply Kd.R_drew)); exact HO_226000.out⟩, ⟨by (with_reducible repeat (first | apply Kd.R_alloc | apply Kd.R_drewN | apply Kd.R_drew)); exact HO_226001.out⟩, ⟨by (with_reducible repeat (first | apply Kd.R_alloc | apply Kd.R_drewN | apply Kd.R_drew)); exact HO_226002.out⟩, ⟨by (with_reducible repeat (first | refine blk_drewN ?_ _ | refine blk_drew ?_ | refine blk_alloc ?_ _)); exact BK223.out⟩, ⟨by (with_reducible repeat (first | refine blk_drewN ?_ _ | refine blk_drew ?_ | refine blk_alloc ?_ _)); exact BK225.out⟩, ⟨by (with_reducible repeat (first | refine blk_drewN ?_ _ | refine blk_drew ?_ | refine blk_alloc ?_ _)); exact BK227.out⟩, ⟨by repeat (first | (with_reducible first | exact HB.out | apply below_alloc | apply pw_below_drewN | apply below_drew1 | refine below_set ?_ GE223.out | refine below_set ?_ GE225.out | refine below_set ?_ GE227.out) | exact HB.out)⟩⟩
                      · rw [if_neg c28] at H
                        have c28b0 : decide (a0 < (wrap64 (t228 + t229))) = false := decide_eq_false c28
                        clear c28
                        replace H := Option.bind_eq_some_iff.mp H
                        obtain ⟨t232, A290, H⟩ := H
                        replace H : (sapperref17_Join.j1 k1 a0 l1 x7_1 l1 (l1.length : Int) x22_1 (t232 != 0) x226000_1 x226001_1 x226002_1 ((rd_T45 l1 x22_1).f0) ((rd_T45 l1 x22_1).f1.f0) ((rd_T45 l1 x22_1).f1.f1) ((rd_T45 l1 x22_1).f1.f2)) = some (r1, r2, r3, r4) := H
                        have A29 := Aside0.mk A290
                        clear A290
                        have H' := Aside0.mk H
                        clear H
                        have hnb30 := NB227_223.out
                        have hnc30 := NB223_227.out
                        have hnb31 := NB227_225.out
                        have hnc31 := NB225_227.out
                        have hcz32_0 : w16.cell? ⟨gb227, 0, none⟩ = some (.int .i64 ((rd_T45 l1 x22_1).f0)) := (blk_cell BK227.out 0).trans rfl
                        have hcz32_1 : w16.cell? ⟨gb227, 1, none⟩ = some (.slice A226_1 ((rd_T45 l1 x22_1).f1.f0).length c226_1) := (blk_cell BK227.out 1).trans rfl
                        have hcz32_2 : w16.cell? ⟨gb227, 2, none⟩ = some (.slice A226_2 ((rd_T45 l1 x22_1).f1.f1).length c226_2) := (blk_cell BK227.out 2).trans rfl
                        have hcz32_3 : w16.cell? ⟨gb227, 3, none⟩ = some (.slice A226_3 ((rd_T45 l1 x22_1).f1.f2).length c226_3) := (blk_cell BK227.out 3).trans rfl
                        have hfz32_0 := blk_frozen BK227.out 0
                        have hfz32_1 := blk_frozen BK227.out 1
                        have hfz32_2 := blk_frozen BK227.out 2
                        have hfz32_3 := blk_frozen BK227.out 3
                        go_wp2_with (first | (go_at_call 21; (with_reducible refine (sapperref17_Check.calls k1 ((rd_T45 l1 x22_1).f0) _ _ ((rd_T45 l1 x22_1).f1.f0) _ _ ((rd_T45 l1 x22_1).f1.f1) _ _ ((rd_T45 l1 x22_1).f1.f2) 16777216 (wrap64 (t228 + t229)) t232 _ ?side1 ?side2 ?side3 ?side4 ?side5 ?side6 A29.out).mono ?_); (case side1 => repeat (first | exact (Kd.C_below HR226_1.out HB.out) | (with_reducible refine Kd.C_alloc ?_ _) | (with_reducible refine Kd.C_drewN ?_ _) | (with_reducible refine Kd.C_drew ?_))); (case side2 => exact HC226_1.out); (case side3 => repeat (first | exact (Kd.C_below HR226_2.out HB.out) | (with_reducible refine Kd.C_alloc ?_ _) | (with_reducible refine Kd.C_drewN ?_ _) | (with_reducible refine Kd.C_drew ?_))); (case side4 => exact HC226_2.out); (case side5 => repeat (first | exact (Kd.C_below HR226_3.out HB.out) | (with_reducible refine Kd.C_alloc ?_ _) | (with_reducible refine Kd.C_drewN ?_ _) | (with_reducible refine Kd.C_drew ?_))); (case side6 => exact HC226_3.out); rintro e w33 ⟨rfl, hb⟩; have n0_ := Aside0.mk (Kd.R_below (by (with_reducible repeat (first | apply Kd.R_alloc | apply Kd.R_drewN | apply Kd.R_drew)); exact HO_226000.out) hb); have n1_ := Aside0.mk (Kd.R_below (by (with_reducible repeat (first | apply Kd.R_alloc | apply Kd.R_drewN | apply Kd.R_drew)); exact HO_226001.out) hb); have n2_ := Aside0.mk (Kd.R_below (by (with_reducible repeat (first | apply Kd.R_alloc | apply Kd.R_drewN | apply Kd.R_drew)); exact HO_226002.out) hb); have n3_ := Aside0.mk (blk_below (g := gb223) (o := .cells #[.slice none 0 0, .slice none 0 0, .slice none 0 0] 26 (0, 0)) (by (with_reducible repeat (first | refine blk_drewN ?_ _ | refine blk_drew ?_ | refine blk_alloc ?_ _)); exact BK223.out) hb); have n4_ := Aside0.mk (blk_below (g := gb225) (o := .cells #[u226000, u226001, u226002] 26 (0, 0)) (by (with_reducible repeat (first | refine blk_drewN ?_ _ | refine blk_drew ?_ | refine blk_alloc ?_ _)); exact BK225.out) hb); have n5_ := Aside0.mk (blk_below (g := gb227) (o := .cells #[.int .i64 ((rd_T45 l1 x22_1).f0), .slice A226_1 ((rd_T45 l1 x22_1).f1.f0).length c226_1, .slice A226_2 ((rd_T45 l1 x22_1).f1.f1).length c226_2, .slice A226_3 ((rd_T45 l1 x22_1).f1.f2).length c226_3] 45 (0, 0)) (by (with_reducible repeat (first | refine blk_drewN ?_ _ | refine blk_drew ?_ | refine blk_alloc ?_ _)); exact BK227.out) hb); have n6_ := Aside0.mk (below_step (by repeat (first | (with_reducible first | exact HB.out | apply below_alloc | apply pw_below_drewN | apply below_drew1 | refine below_set ?_ GE223.out | refine below_set ?_ GE225.out | refine below_set ?_ GE227.out) | exact HB.out)) hb); clear HO_226000; clear HO_226001; clear HO_226002; clear BK223; clear BK225; clear BK227; clear HB; have HO_226000 := n0_; have HO_226001 := n1_; have HO_226002 := n2_; have BK223 := n3_; have BK225 := n4_; have BK227 := n5_; have HB := n6_; clear n0_ n1_ n2_ n3_ n4_ n5_ n6_; (try clear hb); (try clear hb2); (try clear hk); (try clear hi)))
                        go_meet
                        case rel => exact ⟨_, ((t232 != 0)), (by first | rfl | (simp; done) | (simp [*]; done)), H', ⟨by have := HK1.out; first | omega | exact Nat.le_refl _⟩, ⟨by (with_reducible repeat (first | apply Kd.R_alloc | apply Kd.R_drewN | apply Kd.R_drew)); exact HO_226000.out⟩, ⟨by (with_reducible repeat (first | apply Kd.R_alloc | apply Kd.R_drewN | apply Kd.R_drew)); exact HO_226001.out⟩, ⟨by (with_reducible repeat (first | apply Kd.R_alloc | apply Kd.R_drewN | apply Kd.R_drew)); exact HO_226002.out⟩, ⟨by (with_reducible repeat (first | refine blk_drewN ?_ _ | refine blk_drew ?_ | refine blk_alloc ?_ _)); exact BK223.out⟩, ⟨by (with_reducible repeat (first | refine blk_drewN ?_ _ | refine blk_drew ?_ | refine blk_alloc ?_ _)); exact BK225.out⟩, ⟨by (with_reducible repeat (first | refine blk_drewN ?_ _ | refine blk_drew ?_ | refine blk_alloc ?_ _)); exact BK227.out⟩, ⟨by repeat (first | (with_reducible first | exact HB.out | apply below_alloc | apply pw_below_drewN | apply below_drew1 | refine below_set ?_ GE223.out | refine below_set ?_ GE225.out | refine below_set ?_ GE227.out) | exact HB.out)⟩⟩
                · replace c17 := Bool.eq_false_iff.mpr c17
                  subst c17
                  have H1 : (sapperref17_Join.j1 k1 a0 l1 x7_1 l1 (l1.length : Int) x22_1 true x226000_1 x226001_1 x226002_1 ((rd_T45 l1 x22_1).f0) ((rd_T45 l1 x22_1).f1.f0) ((rd_T45 l1 x22_1).f1.f1) ((rd_T45 l1 x22_1).f1.f2)) = some (r1, r2, r3, r4) := by rw [if_neg (show ¬ (false = true) by decide)] at H; exact H
                  clear H
                  have H := H1
                  clear H1
                  have H' := Aside0.mk H
                  clear H
                  go_wp2
                  go_meet
                  case rel => exact ⟨_, (true), (by first | rfl | (simp; done) | (simp [*]; done)), H', ⟨by have := HK1.out; first | omega | exact Nat.le_refl _⟩, ⟨by (with_reducible repeat (first | apply Kd.R_alloc | apply Kd.R_drewN | apply Kd.R_drew)); exact HO_226000.out⟩, ⟨by (with_reducible repeat (first | apply Kd.R_alloc | apply Kd.R_drewN | apply Kd.R_drew)); exact HO_226001.out⟩, ⟨by (with_reducible repeat (first | apply Kd.R_alloc | apply Kd.R_drewN | apply Kd.R_drew)); exact HO_226002.out⟩, ⟨by (with_reducible repeat (first | refine blk_drewN ?_ _ | refine blk_drew ?_ | refine blk_alloc ?_ _)); exact BK223.out⟩, ⟨by (with_reducible repeat (first | refine blk_drewN ?_ _ | refine blk_drew ?_ | refine blk_alloc ?_ _)); exact BK225.out⟩, ⟨by (with_reducible repeat (first | refine blk_drewN ?_ _ | refine blk_drew ?_ | refine blk_alloc ?_ _)); exact BK227.out⟩, ⟨by repeat (first | (with_reducible first | exact HB.out | apply below_alloc | apply pw_below_drewN | apply below_drew1 | refine below_set ?_ GE223.out | refine below_set ?_ GE225.out | refine below_set ?_ GE227.out) | exact HB.out)⟩⟩
              case rest =>
                clear HC11
                try clear c1
                try clear c2
                try clear p2
                try clear q2
                try clear hx2
                try clear c3
                try clear c4
                try clear p6
                try clear c7
                try clear c7b0
                try clear c8
                try clear c8b0
                try clear c9
                try clear c9b0
                try clear c13
                try clear c14
                try clear c17
                try clear c18
                try clear c18b0
                try clear c19
                try clear c19b0
                try clear c19b1
                try clear c20
                try clear c20b0
                try clear c21
                try clear c21b0
                try clear c22
                try clear p22
                try clear q22
                try clear hx22
                try clear c23
                try clear c24
                try clear c27
                try clear c27b0
                try clear c28
                try clear c28b0
                try clear c29
                try clear c30
                try clear c31
                try clear hcz15_0
                try clear hcz15_1
                try clear hcz15_2
                try clear hcz15_3
                try clear hcz25_0
                try clear hcz25_1
                try clear hcz25_2
                try clear hcz25_3
                try clear hcz32_0
                try clear hcz32_1
                try clear hcz32_2
                try clear hcz32_3
                try clear hfz15_0
                try clear hfz15_1
                try clear hfz15_2
                try clear hfz15_3
                try clear hfz25_0
                try clear hfz25_1
                try clear hfz25_2
                try clear hfz25_3
                try clear hfz32_0
                try clear hfz32_1
                try clear hfz32_2
                try clear hfz32_3
                try clear hx226_0
                try clear hx226_1
                try clear hx226_2
                try clear hx226_3
                try clear p2
                try clear p226
                try clear q226
                obtain ⟨kq, x66_10, rfl, HA, HJ10, HO_226000, HO_226001, HO_226002, BK223, BK225, BK227, HB⟩ := hcut
                cases kq with
                | zero => exact absurd HA.out (by simp [sapperref17_Join.j1])
                | succ kj10 =>
                  have H := HA.out
                  clear HA
                  simp only [sapperref17_Join.j1] at H
                  by_cases c34 : x66_10 = true
                  · subst c34
                    have H1 : (some (([] : List (S81)), ([] : List Int), ([] : List Int), 171)) = some (r1, r2, r3, r4) := by rw [if_pos rfl] at H; exact H
                    clear H
                    have H := H1
                    clear H1
                    simp only [Option.some.injEq, Prod.mk.injEq] at H
                    obtain ⟨rfl, rfl, rfl, rfl⟩ := H
                    have hnb35 := NB223_225.out
                    have hnc35 := NB225_223.out
                    have hnb36 := NB223_227.out
                    have hnc36 := NB227_223.out
                    have hcz37_0 : wc.cell? ⟨gb223, 0, none⟩ = some (.slice none 0 0) := (blk_cell BK223.out 0).trans rfl
                    have hcz37_1 : wc.cell? ⟨gb223, 1, none⟩ = some (.slice none 0 0) := (blk_cell BK223.out 1).trans rfl
                    have hcz37_2 : wc.cell? ⟨gb223, 2, none⟩ = some (.slice none 0 0) := (blk_cell BK223.out 2).trans rfl
                    have hfz37_0 := blk_frozen BK223.out 0
                    have hfz37_1 := blk_frozen BK223.out 1
                    have hfz37_2 := blk_frozen BK223.out 2
                    go_wp2
                    refine bodyPost_ret (results_ct rfl _ _ gb223 26 #[.slice none 0 0, .slice none 0 0, .slice none 0 0] (0, 0) _ rfl (by (with_reducible repeat (first | refine blk_drewN ?_ _ | refine blk_drew ?_ | refine blk_alloc ?_ _)); refine blk_put (cs := #[.slice none 0 0, .slice none 0 0, .slice none 0 0]) ?_ 2 _ rfl; (with_reducible repeat (first | refine blk_drewN ?_ _ | refine blk_drew ?_ | refine blk_alloc ?_ _)); refine blk_put (cs := #[.slice none 0 0, .slice none 0 0, .slice none 0 0]) ?_ 1 _ rfl; (with_reducible repeat (first | refine blk_drewN ?_ _ | refine blk_drew ?_ | refine blk_alloc ?_ _)); refine blk_put (cs := #[.slice none 0 0, .slice none 0 0, .slice none 0 0]) ?_ 0 _ rfl; (with_reducible repeat (first | refine blk_drewN ?_ _ | refine blk_drew ?_ | refine blk_alloc ?_ _)); exact BK223.out) Try.underlying26 rfl (by kernel_rfl)) rfl ?_
                    exact ⟨_, _, _, by first | rfl | (simp [errW_none, errW_some] <;> rfl) | (simp [*, errW_none, errW_some] <;> rfl), by first | exact Kd.R_nil _ _ _ _ _ | exact Kd.N_nil _ _ _ _ _ | exact Kd.V_nil _ _ _ _ _ | exact Kd.Q_nil _ _ _ _ _ | exact Kd.S_nil _ _ _ _ _, by first | exact Kd.R_nil _ _ _ _ _ | exact Kd.N_nil _ _ _ _ _ | exact Kd.V_nil _ _ _ _ _ | exact Kd.Q_nil _ _ _ _ _ | exact Kd.S_nil _ _ _ _ _, by first | exact Kd.R_nil _ _ _ _ _ | exact Kd.N_nil _ _ _ _ _ | exact Kd.V_nil _ _ _ _ _ | exact Kd.Q_nil _ _ _ _ _ | exact Kd.S_nil _ _ _ _ _, by repeat (first | (with_reducible first | exact HB.out | apply below_alloc | apply pw_below_drewN | apply below_drew1 | refine below_set ?_ GE223.out | refine below_set ?_ GE225.out | refine below_set ?_ GE227.out) | exact HB.out)⟩
                  · replace c34 := Bool.eq_false_iff.mpr c34
                    subst c34
                    have H1 : (if ((rd_T45 l1 x22_1).f0) = x7_1 then (sapperref17_Join.j2 kj10 a0 l1 x7_1 l1 (l1.length : Int) x22_1 x226000_1 x226001_1 x226002_1 ((rd_T45 l1 x22_1).f0) ((rd_T45 l1 x22_1).f1.f0) ((rd_T45 l1 x22_1).f1.f1) ((rd_T45 l1 x22_1).f1.f2)) else (if x226000_1.length < 5864062014805 then (sapperref17_Join.j2 kj10 a0 l1 ((rd_T45 l1 x22_1).f0) l1 (l1.length : Int) x22_1 (x226000_1 ++ [(⟨0, 0, wrap64 (((rd_T45 l1 x22_1).f0) - x7_1)⟩ : S81)]) x226001_1 x226002_1 ((rd_T45 l1 x22_1).f0) ((rd_T45 l1 x22_1).f1.f0) ((rd_T45 l1 x22_1).f1.f1) ((rd_T45 l1 x22_1).f1.f2)) else (none))) = some (r1, r2, r3, r4) := by rw [if_neg (show ¬ (false = true) by decide)] at H; exact H
                    clear H
                    have H := H1
                    clear H1
                    have HC38 := Aside0.mk H
                    clear H
                    have hnb39 := NB227_223.out
                    have hnc39 := NB223_227.out
                    have hnb40 := NB227_225.out
                    have hnc40 := NB225_227.out
                    have hcz41_0 : wc.cell? ⟨gb227, 0, none⟩ = some (.int .i64 ((rd_T45 l1 x22_1).f0)) := (blk_cell BK227.out 0).trans rfl
                    have hcz41_1 : wc.cell? ⟨gb227, 1, none⟩ = some (.slice A226_1 ((rd_T45 l1 x22_1).f1.f0).length c226_1) := (blk_cell BK227.out 1).trans rfl
                    have hcz41_2 : wc.cell? ⟨gb227, 2, none⟩ = some (.slice A226_2 ((rd_T45 l1 x22_1).f1.f1).length c226_2) := (blk_cell BK227.out 2).trans rfl
                    have hcz41_3 : wc.cell? ⟨gb227, 3, none⟩ = some (.slice A226_3 ((rd_T45 l1 x22_1).f1.f2).length c226_3) := (blk_cell BK227.out 3).trans rfl
                    have hfz41_0 := blk_frozen BK227.out 0
                    have hfz41_1 := blk_frozen BK227.out 1
                    have hfz41_2 := blk_frozen BK227.out 2
                    have hfz41_3 := blk_frozen BK227.out 3
                    go_upto_if 71 with (fail)
                    go_cut [7] (fun v7 wc => ∃ (kq : Nat) (x7_37 : Int) (x226000_37 : List (S81)) (u226000 : Value), v7 = .int .i64 x7_37 ∧ Aside0 (sapperref17_Join.j2 kq a0 l1 x7_37 l1 (l1.length : Int) x22_1 x226000_37 x226001_1 x226002_1 ((rd_T45 l1 x22_1).f0) ((rd_T45 l1 x22_1).f1.f0) ((rd_T45 l1 x22_1).f1.f1) ((rd_T45 l1 x22_1).f1.f2) = some (r1, r2, r3, r4)) ∧ Aside0 (kq ≤ kj10) ∧ Aside0 (Kd.R k81 81 wc w.heap.size (fun _ => True) u226000 x226000_37) ∧ Aside0 (Kd.R (Kd.int .u8) 5 wc w.heap.size (fun k_ => some k_ ≠ (u226002 : Value).ownBlock) u226001 x226001_1) ∧ Aside0 (Kd.R (Kd.int .u8) 5 wc w.heap.size (fun k_ => some k_ ≠ (u226001 : Value).ownBlock) u226002 x226002_1) ∧ Aside0 (wc.heap[gb223]? = some (.cells #[(.slice none 0 0), (.slice none 0 0), (.slice none 0 0)] 26 (0, 0))) ∧ Aside0 (wc.heap[gb225]? = some (.cells #[u226000, u226001, u226002] 26 (0, 0))) ∧ Aside0 (wc.heap[gb227]? = some (.cells #[.int .i64 ((rd_T45 l1 x22_1).f0), (.slice A226_1 ((rd_T45 l1 x22_1).f1.f0).length c226_1), (.slice A226_2 ((rd_T45 l1 x22_1).f1.f1).length c226_2), (.slice A226_3 ((rd_T45 l1 x22_1).f1.f2).length c226_3)] 45 (0, 0))) ∧ Aside0 (Below w.heap.size w wc))
                    case first =>
                      have H := HC38.out
                      clear HC38
                      by_cases c42 : ((rd_T45 l1 x22_1).f0) = x7_1
                      · rw [if_pos c42] at H
                        have c42b0 : (((rd_T45 l1 x22_1).f0) == x7_1) = true := beq_iff_eq.mpr c42
                        have c42b1 : (((rd_T45 l1 x22_1).f0) != x7_1) = false := bne_eq_false_iff_eq.mpr c42
                        clear c42
                        (first | rw [c42b0] | (simp only [i64_w, i32_w]; rw [c42b0]) | skip)
                        have H' := Aside0.mk H
                        clear H
                        go_wp2
                        go_meet
                        case rel => exact ⟨_, (x7_1), (x226000_1), (u226000), (by first | rfl | (simp; done) | (simp [*]; done)), H', ⟨by have := HK1.out; have := HJ10.out; first | omega | exact Nat.le_refl _⟩, ⟨by (with_reducible repeat (first | apply Kd.R_alloc | apply Kd.R_drewN | apply Kd.R_drew)); exact HO_226000.out⟩, ⟨by (with_reducible repeat (first | apply Kd.R_alloc | apply Kd.R_drewN | apply Kd.R_drew)); exact HO_226001.out⟩, ⟨by (with_reducible repeat (first | apply Kd.R_alloc | apply Kd.R_drewN | apply Kd.R_drew)); exact HO_226002.out⟩, ⟨by (with_reducible repeat (first | refine blk_drewN ?_ _ | refine blk_drew ?_ | refine blk_alloc ?_ _)); exact BK223.out⟩, ⟨by (with_reducible repeat (first | refine blk_drewN ?_ _ | refine blk_drew ?_ | refine blk_alloc ?_ _)); exact BK225.out⟩, ⟨by (with_reducible repeat (first | refine blk_drewN ?_ _ | refine blk_drew ?_ | refine blk_alloc ?_ _)); exact BK227.out⟩, ⟨by repeat (first | (with_reducible first | exact HB.out | apply below_alloc | apply pw_below_drewN | apply below_drew1 | refine below_set ?_ GE223.out | refine below_set ?_ GE225.out | refine below_set ?_ GE227.out) | exact HB.out)⟩⟩
                      · rw [if_neg c42] at H
                        have c42b0 : (((rd_T45 l1 x22_1).f0) == x7_1) = false := beq_eq_false_iff_ne.mpr c42
                        have c42b1 : (((rd_T45 l1 x22_1).f0) != x7_1) = true := bne_iff_ne.mpr c42
                        (first | rw [c42b0] | (simp only [i64_w, i32_w]; rw [c42b0]) | skip)
                        by_cases c43 : x226000_1.length < 5864062014805
                        · rw [if_pos c43] at H
                          have LMc43 := Aside0.mk c43
                          clear c43
                          obtain ⟨y233, hy233⟩ : ∃ y_ : List (S81), y_ = (x226000_1 ++ [(⟨0, 0, wrap64 (((rd_T45 l1 x22_1).f0) - x7_1)⟩ : S81)]) := ⟨_, rfl⟩
                          replace H : (sapperref17_Join.j2 kj10 a0 l1 ((rd_T45 l1 x22_1).f0) l1 (l1.length : Int) x22_1 y233 x226001_1 x226002_1 ((rd_T45 l1 x22_1).f0) ((rd_T45 l1 x22_1).f1.f0) ((rd_T45 l1 x22_1).f1.f1) ((rd_T45 l1 x22_1).f1.f2)) = some (r1, r2, r3, r4) := by first | (rw [hy233]; with_reducible exact H) | (have H2_ := (Option.bind_some _ _).symm.trans H; rw [hy233]; with_reducible exact H2_) | (have H2_ := (Option.bind_some _ _).symm.trans H; with_reducible exact H2_) | with_reducible exact H | (rw [hy233]; exact H) | exact H
                          have Ny233 := Aside0.mk hy233
                          clear hy233
                          have H' := Aside0.mk H
                          clear H
                          have hnb44 := NB225_223.out
                          have hnc44 := NB223_225.out
                          have hnb45 := NB225_227.out
                          have hnc45 := NB227_225.out
                          have hcz46_0 : wc.cell? ⟨gb225, 0, none⟩ = some (u226000) := (blk_cell BK225.out 0).trans rfl
                          have hcz46_1 : wc.cell? ⟨gb225, 1, none⟩ = some (u226001) := (blk_cell BK225.out 1).trans rfl
                          have hcz46_2 : wc.cell? ⟨gb225, 2, none⟩ = some (u226002) := (blk_cell BK225.out 2).trans rfl
                          have hfz46_0 := blk_frozen BK225.out 0
                          have hfz46_1 := blk_frozen BK225.out 1
                          have hfz46_2 := blk_frozen BK225.out 2
                          have hnb47 := NB227_223.out
                          have hnc47 := NB223_227.out
                          have hcz48_0 : wc.cell? ⟨gb227, 0, none⟩ = some (.int .i64 ((rd_T45 l1 x22_1).f0)) := (blk_cell BK227.out 0).trans rfl
                          have hcz48_1 : wc.cell? ⟨gb227, 1, none⟩ = some (.slice A226_1 ((rd_T45 l1 x22_1).f1.f0).length c226_1) := (blk_cell BK227.out 1).trans rfl
                          have hcz48_2 : wc.cell? ⟨gb227, 2, none⟩ = some (.slice A226_2 ((rd_T45 l1 x22_1).f1.f1).length c226_2) := (blk_cell BK227.out 2).trans rfl
                          have hcz48_3 : wc.cell? ⟨gb227, 3, none⟩ = some (.slice A226_3 ((rd_T45 l1 x22_1).f1.f2).length c226_3) := (blk_cell BK227.out 3).trans rfl
                          have hfz48_0 := blk_frozen BK227.out 0
                          have hfz48_1 := blk_frozen BK227.out 1
                          have hfz48_2 := blk_frozen BK227.out 2
                          have hfz48_3 := blk_frozen BK227.out 3
                          go_wp2_with (first | ((with_reducible refine gate_builtin (b := .append) (xs := #[.tmp 73, .tmp 79]) rfl ?_); (try (refine gate_guard (by rfl) ?_; dsimp only)); at_builtin; refine Kd.R_append k81 (w0 := w) w.heap.size rfl (.tmp 73) (.tmp 79) 23 81 (.agg #[(.int .i64 0), (.int .i64 0), (.int .i64 0)]) 24 rfl Try.underlying23 info81 rfl (by decide) (by omega) u226000 x226000_1 (⟨0, 0, wrap64 (((rd_T45 l1 x22_1).f0) - x7_1)⟩ : S81) [.int .i64 0, .int .i64 0, .int .i64 (wrap64 (((rd_T45 l1 x22_1).f0) - x7_1))] (fun _ => True) (fun _ => False) rfl rfl ?aP (fun _ hk => hk.elim) ?aF ?aO ?aB ?aS ?aL ?_; (case aP => exact k81_mkM _ _ _ (⟨0, 0, wrap64 (((rd_T45 l1 x22_1).f0) - x7_1)⟩ : S81)); (case aB => exact (by repeat (first | (with_reducible first | exact HB.out | apply below_alloc | apply pw_below_drewN | apply below_drew1 | refine below_set ?_ GE223.out | refine below_set ?_ GE225.out | refine below_set ?_ GE227.out) | exact HB.out))); (case aF => exact (fun _ _ => trivial)); (case aO => exact (by (with_reducible repeat (first | apply Kd.R_alloc | apply Kd.R_drewN | apply Kd.R_drew)); exact HO_226000.out)); (case aS => exact (below_size (by repeat (first | (with_reducible first | exact HB.out | apply below_alloc | apply pw_below_drewN | apply below_drew1 | refine below_set ?_ GE223.out | refine below_set ?_ GE225.out | refine below_set ?_ GE227.out) | exact HB.out)))); (case aL => have := LMc43.out; omega); intro v234 w49 ho hb hg hat; rw [← Ny233.out] at ho; have n0_ := Aside0.mk (Kd.R_over' (by (with_reducible repeat (first | apply Kd.R_alloc | apply Kd.R_drewN | apply Kd.R_drew)); exact HO_226001.out) (Kd.R_typed (by (with_reducible repeat (first | apply Kd.R_alloc | apply Kd.R_drewN | apply Kd.R_drew)); exact HO_226000.out)) (by decide) hg); have n1_ := Aside0.mk (Kd.R_over' (by (with_reducible repeat (first | apply Kd.R_alloc | apply Kd.R_drewN | apply Kd.R_drew)); exact HO_226002.out) (Kd.R_typed (by (with_reducible repeat (first | apply Kd.R_alloc | apply Kd.R_drewN | apply Kd.R_drew)); exact HO_226000.out)) (by decide) hg); have n2_ := Aside0.mk (blk_grown (g := gb223) (o := .cells #[.slice none 0 0, .slice none 0 0, .slice none 0 0] 26 (0, 0)) (by (with_reducible repeat (first | refine blk_drewN ?_ _ | refine blk_drew ?_ | refine blk_alloc ?_ _)); exact BK223.out) hg (Kd.R_ne HO_226000.out BK223.out (by decide))); have n3_ := Aside0.mk (blk_grown (g := gb225) (o := .cells #[u226000, u226001, u226002] 26 (0, 0)) (by (with_reducible repeat (first | refine blk_drewN ?_ _ | refine blk_drew ?_ | refine blk_alloc ?_ _)); exact BK225.out) hg (Kd.R_ne HO_226000.out BK225.out (by decide))); have n4_ := Aside0.mk (blk_grown (g := gb227) (o := .cells #[.int .i64 ((rd_T45 l1 x22_1).f0), .slice A226_1 ((rd_T45 l1 x22_1).f1.f0).length c226_1, .slice A226_2 ((rd_T45 l1 x22_1).f1.f1).length c226_2, .slice A226_3 ((rd_T45 l1 x22_1).f1.f2).length c226_3] 45 (0, 0)) (by (with_reducible repeat (first | refine blk_drewN ?_ _ | refine blk_drew ?_ | refine blk_alloc ?_ _)); exact BK227.out) hg (Kd.R_ne HO_226000.out BK227.out (by decide))); have n5_ := Aside0.mk (hb); have n6_ := Aside0.mk (ho); clear HO_226001; clear HO_226002; clear BK223; clear BK225; clear BK227; clear HB; clear HO_226000; have HO_226001 := n0_; have HO_226002 := n1_; have BK223 := n2_; have BK225 := n3_; have BK227 := n4_; have HB := n5_; have HO235 := n6_; clear n0_ n1_ n2_ n3_ n4_ n5_ n6_; clear ho hb hg hat; obtain ⟨Ao50, co50, eo50⟩ := Kd.R_slice HO235.out; subst eo50; have hcz51_0 : w49.cell? ⟨gb225, 0, none⟩ = some (u226000) := (blk_cell BK225.out 0).trans rfl; have hcz51_1 : w49.cell? ⟨gb225, 1, none⟩ = some (u226001) := (blk_cell BK225.out 1).trans rfl; have hcz51_2 : w49.cell? ⟨gb225, 2, none⟩ = some (u226002) := (blk_cell BK225.out 2).trans rfl; have hfz51_0 := blk_frozen BK225.out 0; have hfz51_1 := blk_frozen BK225.out 1; have hfz51_2 := blk_frozen BK225.out 2; have hcz52_0 : w49.cell? ⟨gb227, 0, none⟩ = some (.int .i64 ((rd_T45 l1 x22_1).f0)) := (blk_cell BK227.out 0).trans rfl; have hcz52_1 : w49.cell? ⟨gb227, 1, none⟩ = some (.slice A226_1 ((rd_T45 l1 x22_1).f1.f0).length c226_1) := (blk_cell BK227.out 1).trans rfl; have hcz52_2 : w49.cell? ⟨gb227, 2, none⟩ = some (.slice A226_2 ((rd_T45 l1 x22_1).f1.f1).length c226_2) := (blk_cell BK227.out 2).trans rfl; have hcz52_3 : w49.cell? ⟨gb227, 3, none⟩ = some (.slice A226_3 ((rd_T45 l1 x22_1).f1.f2).length c226_3) := (blk_cell BK227.out 3).trans rfl; have hfz52_0 := blk_frozen BK227.out 0; have hfz52_1 := blk_frozen BK227.out 1; have hfz52_2 := blk_frozen BK227.out 2; have hfz52_3 := blk_frozen BK227.out 3))
                          go_meet
                          case rel => exact ⟨_, (((rd_T45 l1 x22_1).f0)), (y233), (.slice Ao50 y233.length co50), (by first | rfl | (simp; done) | (simp [*]; done)), H', ⟨by have := HK1.out; have := HJ10.out; first | omega | exact Nat.le_refl _⟩, ⟨by (with_reducible repeat (first | apply Kd.R_alloc | apply Kd.R_drewN | apply Kd.R_drew)); exact Kd.R_mono (Kd.R_far (p := ⟨gb225, 0, none⟩) (Kd.R_types HO235.out BK225.out (by decide)) (fun _ hk => hk.2) (.slice Ao50 y233.length co50)) (fun _ hk => trivial)⟩, ⟨by (with_reducible repeat (first | apply Kd.R_alloc | apply Kd.R_drewN | apply Kd.R_drew)); exact Kd.R_mono (Kd.R_far (p := ⟨gb225, 0, none⟩) (Kd.R_types HO_226001.out BK225.out (by decide)) (fun _ hk => hk.2) (.slice Ao50 y233.length co50)) (fun _ hk => hk.1)⟩, ⟨by (with_reducible repeat (first | apply Kd.R_alloc | apply Kd.R_drewN | apply Kd.R_drew)); exact Kd.R_mono (Kd.R_far (p := ⟨gb225, 0, none⟩) (Kd.R_types HO_226002.out BK225.out (by decide)) (fun _ hk => hk.2) (.slice Ao50 y233.length co50)) (fun _ hk => hk.1)⟩, ⟨by (with_reducible repeat (first | refine blk_drewN ?_ _ | refine blk_drew ?_ | refine blk_alloc ?_ _)); refine blk_far ?_ NB223_225.out _; (with_reducible repeat (first | refine blk_drewN ?_ _ | refine blk_drew ?_ | refine blk_alloc ?_ _)); exact BK223.out⟩, ⟨by (with_reducible repeat (first | refine blk_drewN ?_ _ | refine blk_drew ?_ | refine blk_alloc ?_ _)); refine blk_put (cs := #[u226000, u226001, u226002]) ?_ 0 _ rfl; (with_reducible repeat (first | refine blk_drewN ?_ _ | refine blk_drew ?_ | refine blk_alloc ?_ _)); exact BK225.out⟩, ⟨by (with_reducible repeat (first | refine blk_drewN ?_ _ | refine blk_drew ?_ | refine blk_alloc ?_ _)); refine blk_far ?_ NB227_225.out _; (with_reducible repeat (first | refine blk_drewN ?_ _ | refine blk_drew ?_ | refine blk_alloc ?_ _)); exact BK227.out⟩, ⟨by repeat (first | (with_reducible first | exact HB.out | apply below_alloc | apply pw_below_drewN | apply below_drew1 | refine below_set ?_ GE223.out | refine below_set ?_ GE225.out | refine below_set ?_ GE227.out) | exact HB.out)⟩⟩
                        · rw [if_neg c43] at H
                          exact absurd H (by simp)
                    case rest =>
                      clear HC38
                      try clear c1
                      try clear c2
                      try clear p2
                      try clear q2
                      try clear hx2
                      try clear c3
                      try clear c4
                      try clear p6
                      try clear c7
                      try clear c7b0
                      try clear c8
                      try clear c8b0
                      try clear c9
                      try clear c9b0
                      try clear c13
                      try clear c14
                      try clear c17
                      try clear c18
                      try clear c18b0
                      try clear c19
                      try clear c19b0
                      try clear c19b1
                      try clear c20
                      try clear c20b0
                      try clear c21
                      try clear c21b0
                      try clear c22
                      try clear p22
                      try clear q22
                      try clear hx22
                      try clear c23
                      try clear c24
                      try clear c27
                      try clear c27b0
                      try clear c28
                      try clear c28b0
                      try clear c29
                      try clear c30
                      try clear c31
                      try clear c34
                      try clear c35
                      try clear c36
                      try clear c39
                      try clear c40
                      try clear c42
                      try clear c42b0
                      try clear c42b1
                      try clear c43
                      try clear c44
                      try clear c45
                      try clear c47
                      try clear c48
                      try clear hcz15_0
                      try clear hcz15_1
                      try clear hcz15_2
                      try clear hcz15_3
                      try clear hcz25_0
                      try clear hcz25_1
                      try clear hcz25_2
                      try clear hcz25_3
                      try clear hcz32_0
                      try clear hcz32_1
                      try clear hcz32_2
                      try clear hcz32_3
                      try clear hcz37_0
                      try clear hcz37_1
                      try clear hcz37_2
                      try clear hcz41_0
                      try clear hcz41_1
                      try clear hcz41_2
                      try clear hcz41_3
                      try clear hcz46_0
                      try clear hcz46_1
                      try clear hcz46_2
                      try clear hcz48_0
                      try clear hcz48_1
                      try clear hcz48_2
                      try clear hcz48_3
                      try clear hcz51_0
                      try clear hcz51_1
                      try clear hcz51_2
                      try clear hcz52_0
                      try clear hcz52_1
                      try clear hcz52_2
                      try clear hcz52_3
                      try clear hfz15_0
                      try clear hfz15_1
                      try clear hfz15_2
                      try clear hfz15_3
                      try clear hfz25_0
                      try clear hfz25_1
                      try clear hfz25_2
                      try clear hfz25_3
                      try clear hfz32_0
                      try clear hfz32_1
                      try clear hfz32_2
                      try clear hfz32_3
                      try clear hfz37_0
                      try clear hfz37_1
                      try clear hfz37_2
                      try clear hfz41_0
                      try clear hfz41_1
                      try clear hfz41_2
                      try clear hfz41_3
                      try clear hfz46_0
                      try clear hfz46_1
                      try clear hfz46_2
                      try clear hfz48_0
                      try clear hfz48_1
                      try clear hfz48_2
                      try clear hfz48_3
                      try clear hfz51_0
                      try clear hfz51_1
                      try clear hfz51_2
                      try clear hfz52_0
                      try clear hfz52_1
                      try clear hfz52_2
                      try clear hfz52_3
                      try clear hx226_0
                      try clear hx226_1
                      try clear hx226_2
                      try clear hx226_3
                      try clear p2
                      try clear p22
                      try clear p226
                      try clear p6
                      try clear q2
                      try clear q22
                      try clear q226
                      obtain ⟨kq, x7_37, x226000_37, u226000, rfl, HA, HJ37, HO_226000, HO_226001, HO_226002, BK223, BK225, BK227, HB⟩ := hcut
                      cases kq with
                      | zero => exact absurd HA.out (by simp [sapperref17_Join.j2])
                      | succ kj37 =>
                        have H := HA.out
                        clear HA
                        simp only [sapperref17_Join.j2] at H
                        have H' := Aside0.mk H
                        clear H
                        have hnb53 := NB227_223.out
                        have hnc53 := NB223_227.out
                        have hnb54 := NB227_225.out
                        have hnc54 := NB225_227.out
                        have hcz55_0 : wc.cell? ⟨gb227, 0, none⟩ = some (.int .i64 ((rd_T45 l1 x22_1).f0)) := (blk_cell BK227.out 0).trans rfl
                        have hcz55_1 : wc.cell? ⟨gb227, 1, none⟩ = some (.slice A226_1 ((rd_T45 l1 x22_1).f1.f0).length c226_1) := (blk_cell BK227.out 1).trans rfl
                        have hcz55_2 : wc.cell? ⟨gb227, 2, none⟩ = some (.slice A226_2 ((rd_T45 l1 x22_1).f1.f1).length c226_2) := (blk_cell BK227.out 2).trans rfl
                        have hcz55_3 : wc.cell? ⟨gb227, 3, none⟩ = some (.slice A226_3 ((rd_T45 l1 x22_1).f1.f2).length c226_3) := (blk_cell BK227.out 3).trans rfl
                        have hfz55_0 := blk_frozen BK227.out 0
                        have hfz55_1 := blk_frozen BK227.out 1
                        have hfz55_2 := blk_frozen BK227.out 2
                        have hfz55_3 := blk_frozen BK227.out 3
                        go_wp2
                        go_loopg [7, 88] kj37 (fun kq v7 v88 w' => ∃ (x7_4 : Int) (x88_4 : Int), v7 = .int .i64 x7_4 ∧ v88 = .int .i64 x88_4 ∧ Aside0 (sapperref17_Join.l1 kq a0 l1 x7_4 l1 (l1.length : Int) x22_1 ((rd_T45 l1 x22_1).f1.f0) (((rd_T45 l1 x22_1).f1.f0).length : Int) x88_4 x226000_37 x226001_1 x226002_1 ((rd_T45 l1 x22_1).f0) ((rd_T45 l1 x22_1).f1.f0) ((rd_T45 l1 x22_1).f1.f1) ((rd_T45 l1 x22_1).f1.f2) = some (r1, r2, r3, r4)) ∧ Aside0 (kq ≤ kj37) ∧ Aside0 (Kd.R k81 81 w' w.heap.size (fun _ => True) u226000 x226000_37) ∧ Aside0 (Kd.R (Kd.int .u8) 5 w' w.heap.size (fun k_ => some k_ ≠ (u226002 : Value).ownBlock) u226001 x226001_1) ∧ Aside0 (Kd.R (Kd.int .u8) 5 w' w.heap.size (fun k_ => some k_ ≠ (u226001 : Value).ownBlock) u226002 x226002_1) ∧ Aside0 (w'.heap[gb223]? = some (.cells #[(.slice none 0 0), (.slice none 0 0), (.slice none 0 0)] 26 (0, 0))) ∧ Aside0 (w'.heap[gb225]? = some (.cells #[u226000, u226001, u226002] 26 (0, 0))) ∧ Aside0 (w'.heap[gb227]? = some (.cells #[.int .i64 ((rd_T45 l1 x22_1).f0), (.slice A226_1 ((rd_T45 l1 x22_1).f1.f0).length c226_1), (.slice A226_2 ((rd_T45 l1 x22_1).f1.f1).length c226_2), (.slice A226_3 ((rd_T45 l1 x22_1).f1.f2).length c226_3)] 45 (0, 0))) ∧ Aside0 (Below w.heap.size w w'))
                        case atStart => exact ⟨(x7_37), (0), (by first | rfl | (simp; done) | (simp [*]; done)), (by first | rfl | (simp; done) | (simp [*]; done)), H', ⟨Nat.le_refl _⟩, ⟨by (with_reducible repeat (first | apply Kd.R_alloc | apply Kd.R_drewN | apply Kd.R_drew)); exact HO_226000.out⟩, ⟨by (with_reducible repeat (first | apply Kd.R_alloc | apply Kd.R_drewN | apply Kd.R_drew)); exact HO_226001.out⟩, ⟨by (with_reducible repeat (first | apply Kd.R_alloc | apply Kd.R_drewN | apply Kd.R_drew)); exact HO_226002.out⟩, ⟨by (with_reducible repeat (first | refine blk_drewN ?_ _ | refine blk_drew ?_ | refine blk_alloc ?_ _)); exact BK223.out⟩, ⟨by (with_reducible repeat (first | refine blk_drewN ?_ _ | refine blk_drew ?_ | refine blk_alloc ?_ _)); exact BK225.out⟩, ⟨by (with_reducible repeat (first | refine blk_drewN ?_ _ | refine blk_drew ?_ | refine blk_alloc ?_ _)); exact BK227.out⟩, ⟨by repeat (first | (with_reducible first | exact HB.out | apply below_alloc | apply pw_below_drewN | apply below_drew1 | refine below_set ?_ GE223.out | refine below_set ?_ GE225.out | refine below_set ?_ GE227.out) | exact HB.out)⟩⟩
                        case round =>
                          clear H'
                          try clear c1
                          try clear c2
                          try clear p2
                          try clear q2
                          try clear hx2
                          try clear c3
                          try clear c4
                          try clear c5
                          try clear p6
                          try clear c7
                          try clear c7b0
                          try clear c8
                          try clear c8b0
                          try clear c9
                          try clear c9b0
                          try clear c13
                          try clear c14
                          try clear c17
                          try clear c18
                          try clear c18b0
                          try clear c19
                          try clear c19b0
                          try clear c19b1
                          try clear c20
                          try clear c20b0
                          try clear c21
                          try clear c21b0
                          try clear c22
                          try clear p22
                          try clear q22
                          try clear hx22
                          try clear c23
                          try clear c24
                          try clear c27
                          try clear c27b0
                          try clear c28
                          try clear c28b0
                          try clear c29
                          try clear c30
                          try clear c31
                          try clear c34
                          try clear c35
                          try clear c36
                          try clear c39
                          try clear c40
                          try clear c42
                          try clear c42b0
                          try clear c42b1
                          try clear c43
                          try clear c44
                          try clear c45
                          try clear c47
                          try clear c48
                          try clear c53
                          try clear c54
                          try clear hcz15_0
                          try clear hcz15_1
                          try clear hcz15_2
                          try clear hcz15_3
                          try clear hcz25_0
                          try clear hcz25_1
                          try clear hcz25_2
                          try clear hcz25_3
                          try clear hcz32_0
                          try clear hcz32_1
                          try clear hcz32_2
                          try clear hcz32_3
                          try clear hcz37_0
                          try clear hcz37_1
                          try clear hcz37_2
                          try clear hcz41_0
                          try clear hcz41_1
                          try clear hcz41_2
                          try clear hcz41_3
                          try clear hcz46_0
                          try clear hcz46_1
                          try clear hcz46_2
                          try clear hcz48_0
                          try clear hcz48_1
                          try clear hcz48_2
                          try clear hcz48_3
                          try clear hcz51_0
                          try clear hcz51_1
                          try clear hcz51_2
                          try clear hcz52_0
                          try clear hcz52_1
                          try clear hcz52_2
                          try clear hcz52_3
                          try clear hcz55_0
                          try clear hcz55_1
                          try clear hcz55_2
                          try clear hcz55_3
                          try clear hfz15_0
                          try clear hfz15_1
                          try clear hfz15_2
                          try clear hfz15_3
                          try clear hfz25_0
                          try clear hfz25_1
                          try clear hfz25_2
                          try clear hfz25_3
                          try clear hfz32_0
                          try clear hfz32_1
                          try clear hfz32_2
                          try clear hfz32_3
                          try clear hfz37_0
                          try clear hfz37_1
                          try clear hfz37_2
                          try clear hfz41_0
                          try clear hfz41_1
                          try clear hfz41_2
                          try clear hfz41_3
                          try clear hfz46_0
                          try clear hfz46_1
                          try clear hfz46_2
                          try clear hfz48_0
                          try clear hfz48_1
                          try clear hfz48_2
                          try clear hfz48_3
                          try clear hfz51_0
                          try clear hfz51_1
                          try clear hfz51_2
                          try clear hfz52_0
                          try clear hfz52_1
                          try clear hfz52_2
                          try clear hfz52_3
                          try clear hfz55_0
                          try clear hfz55_1
                          try clear hfz55_2
                          try clear hfz55_3
                          try clear hx226_0
                          try clear hx226_1
                          try clear hx226_2
                          try clear hx226_3
                          try clear p2
                          try clear p22
                          try clear p226
                          try clear p6
                          try clear q2
                          try clear q22
                          try clear q226
                          obtain ⟨x7_4, x88_4, rfl, rfl, HA, HK4, HO_226000, HO_226001, HO_226002, BK223, BK225, BK227, HB⟩ := hrel
                          cases gk with
                          | zero => exact absurd HA.out (by simp [sapperref17_Join.l1])
                          | succ k4 =>
                            have H := HA.out
                            clear HA
                            simp only [sapperref17_Join.l1] at H
                            by_cases c56 : x88_4 < (((rd_T45 l1 x22_1).f1.f0).length : Int)
                            · rw [if_pos c56] at H
                              have c56b0 : decide (x88_4 < (((rd_T45 l1 x22_1).f1.f0).length : Int)) = true := decide_eq_true c56
                              clear c56
                              by_cases c57 : 0 ≤ x88_4
                              · rw [if_pos c57] at H
                                have c57b0 : decide (0 ≤ x88_4) = true := decide_eq_true c57
                                clear c57
                                by_cases c58 : x88_4 < (((rd_T45 l1 x22_1).f1.f0).length : Int)
                                · rw [if_pos c58] at H
                                  have c58b0 : decide (x88_4 < (((rd_T45 l1 x22_1).f1.f0).length : Int)) = true := decide_eq_true c58
                                  clear c58
                                  have H' := Aside0.mk H
                                  clear H
                                  have p236 : 0 ≤ (x88_4 : Int) := of_decide_eq_true (by first | (with_reducible assumption) | assumption)
                                  have q236 : x88_4 < (((rd_T45 l1 x22_1).f1.f0).length : Int) := of_decide_eq_true (by first | (with_reducible assumption) | assumption)
                                  obtain ⟨ad236, e236, hx236_0, hx236_1, hx236_2⟩ := at_T81 HR226_1.out x88_4 p236 q236
                                  cases e236
                                  replace hx236_0 := (HB.out.cell (World.block_lt_of_cell? w _ hx236_0)).trans hx236_0
                                  replace hx236_1 := (HB.out.cell (World.block_lt_of_cell? w _ hx236_1)).trans hx236_1
                                  replace hx236_2 := (HB.out.cell (World.block_lt_of_cell? w _ hx236_2)).trans hx236_2
                                  replace p236 := eq_true p236
                                  replace q236 := eq_true q236
                                  go_wp2_with (first | ((with_reducible refine gate_dst (N := 15) rfl ?_); (try (refine gate_guard (by rfl) ?_; dsimp only)); refine box_event ?hg (N := 15) ?hd (cs := #[.int .i64 0, .int .i64 0, .int .i64 0]) (t := 81) ?hr ?_; (case hd => rfl); (case hg => rfl); (case hr => first | (go_simp; done) | (go_simp; rfl)); intro gb237 hg w59 hbox hb; have n0_ := Aside0.mk (Kd.R_below (Kd.R_elderB (by (with_reducible repeat (first | apply Kd.R_alloc | apply Kd.R_drewN | apply Kd.R_drew)); exact HO_226000.out) gb237 (Nat.le_of_eq hg.symm)) hb); have n1_ := Aside0.mk (Kd.R_below (by (with_reducible repeat (first | apply Kd.R_alloc | apply Kd.R_drewN | apply Kd.R_drew)); exact HO_226001.out) hb); have n2_ := Aside0.mk (Kd.R_below (by (with_reducible repeat (first | apply Kd.R_alloc | apply Kd.R_drewN | apply Kd.R_drew)); exact HO_226002.out) hb); have n3_ := Aside0.mk (blk_below (g := gb223) (o := .cells #[.slice none 0 0, .slice none 0 0, .slice none 0 0] 26 (0, 0)) (by (with_reducible repeat (first | refine blk_drewN ?_ _ | refine blk_drew ?_ | refine blk_alloc ?_ _)); exact BK223.out) hb); have n4_ := Aside0.mk (blk_below (g := gb225) (o := .cells #[u226000, u226001, u226002] 26 (0, 0)) (by (with_reducible repeat (first | refine blk_drewN ?_ _ | refine blk_drew ?_ | refine blk_alloc ?_ _)); exact BK225.out) hb); have n5_ := Aside0.mk (blk_below (g := gb227) (o := .cells #[.int .i64 ((rd_T45 l1 x22_1).f0), .slice (some ad236) ((rd_T45 l1 x22_1).f1.f0).length c226_1, .slice A226_2 ((rd_T45 l1 x22_1).f1.f1).length c226_2, .slice A226_3 ((rd_T45 l1 x22_1).f1.f2).length c226_3] 45 (0, 0)) (by (with_reducible repeat (first | refine blk_drewN ?_ _ | refine blk_drew ?_ | refine blk_alloc ?_ _)); exact BK227.out) hb); have n6_ := Aside0.mk (below_step (by repeat (first | (with_reducible first | exact HB.out | apply below_alloc | apply pw_below_drewN | apply below_drew1 | refine below_set ?_ GE223.out | refine below_set ?_ GE225.out | refine below_set ?_ GE227.out) | exact HB.out)) hb); have n7_ := Aside0.mk (hbox); have n8_ := Aside0.mk ((by rw [hg]; exact (below_size (by repeat (first | (with_reducible first | exact HB.out | apply below_alloc | apply pw_below_drewN | apply below_drew1 | refine below_set ?_ GE223.out | refine below_set ?_ GE225.out | refine below_set ?_ GE227.out) | exact HB.out))) : w.heap.size ≤ gb237)); have n9_ := Aside0.mk ((by rw [hg]; exact (below_size (by repeat (first | (with_reducible first | exact HB.out | apply below_alloc | apply pw_below_drewN | apply below_drew1 | refine below_set ?_ GE223.out | refine below_set ?_ GE225.out | refine below_set ?_ GE227.out) | exact HB.out))) : w.heap.size ≤ gb237)); have n10_ := Aside0.mk ((by rw [hg]; exact Nat.ne_of_lt (blk_lt (g := gb223) (o := .cells #[.slice none 0 0, .slice none 0 0, .slice none 0 0] 26 (0, 0)) (by (with_reducible repeat (first | refine blk_drewN ?_ _ | refine blk_drew ?_ | refine blk_alloc ?_ _)); exact BK223.out)) : gb223 ≠ gb237)); have n11_ := Aside0.mk ((by rw [hg]; exact Nat.ne_of_gt (blk_lt (g := gb223) (o := .cells #[.slice none 0 0, .slice none 0 0, .slice none 0 0] 26 (0, 0)) (by (with_reducible repeat (first | refine blk_drewN ?_ _ | refine blk_drew ?_ | refine blk_alloc ?_ _)); exact BK223.out)) : gb237 ≠ gb223)); have n12_ := Aside0.mk ((by rw [hg]; exact Nat.ne_of_lt (blk_lt (g := gb225) (o := .cells #[u226000, u226001, u226002] 26 (0, 0)) (by (with_reducible repeat (first | refine blk_drewN ?_ _ | refine blk_drew ?_ | refine blk_alloc ?_ _)); exact BK225.out)) : gb225 ≠ gb237)); have n13_ := Aside0.mk ((by rw [hg]; exact Nat.ne_of_gt (blk_lt (g := gb225) (o := .cells #[u226000, u226001, u226002] 26 (0, 0)) (by (with_reducible repeat (first | refine blk_drewN ?_ _ | refine blk_drew ?_ | refine blk_alloc ?_ _)); exact BK225.out)) : gb237 ≠ gb225)); have n14_ := Aside0.mk ((by rw [hg]; exact Nat.ne_of_lt (blk_lt (g := gb227) (o := .cells #[.int .i64 ((rd_T45 l1 x22_1).f0), .slice (some ad236) ((rd_T45 l1 x22_1).f1.f0).length c226_1, .slice A226_2 ((rd_T45 l1 x22_1).f1.f1).length c226_2, .slice A226_3 ((rd_T45 l1 x22_1).f1.f2).length c226_3] 45 (0, 0)) (by (with_reducible repeat (first | refine blk_drewN ?_ _ | refine blk_drew ?_ | refine blk_alloc ?_ _)); exact BK227.out)) : gb227 ≠ gb237)); have n15_ := Aside0.mk ((by rw [hg]; exact Nat.ne_of_gt (blk_lt (g := gb227) (o := .cells #[.int .i64 ((rd_T45 l1 x22_1).f0), .slice (some ad236) ((rd_T45 l1 x22_1).f1.f0).length c226_1, .slice A226_2 ((rd_T45 l1 x22_1).f1.f1).length c226_2, .slice A226_3 ((rd_T45 l1 x22_1).f1.f2).length c226_3] 45 (0, 0)) (by (with_reducible repeat (first | refine blk_drewN ?_ _ | refine blk_drew ?_ | refine blk_alloc ?_ _)); exact BK227.out)) : gb237 ≠ gb227)); clear HO_226000; clear HO_226001; clear HO_226002; clear BK223; clear BK225; clear BK227; clear HB; have HO_226000 := n0_; have HO_226001 := n1_; have HO_226002 := n2_; have BK223 := n3_; have BK225 := n4_; have BK227 := n5_; have HB := n6_; have BK237 := n7_; have GW237 := n8_; have GE237 := n9_; have NB223_237 := n10_; have NB237_223 := n11_; have NB225_237 := n12_; have NB237_225 := n13_; have NB227_237 := n14_; have NB237_227 := n15_; clear n0_ n1_ n2_ n3_ n4_ n5_ n6_ n7_ n8_ n9_ n10_ n11_ n12_ n13_ n14_ n15_; clear hb hbox hg; have hnb60 := NB237_223.out; have hnc60 := NB223_237.out; have hnb61 := NB237_225.out; have hnc61 := NB225_237.out; have hnb62 := NB237_227.out; have hnc62 := NB227_237.out; have hcz63_0 : w59.cell? ⟨gb237, 0, none⟩ = some (.int .i64 0) := (blk_cell BK237.out 0).trans rfl; have hcz63_1 : w59.cell? ⟨gb237, 1, none⟩ = some (.int .i64 0) := (blk_cell BK237.out 1).trans rfl; have hcz63_2 : w59.cell? ⟨gb237, 2, none⟩ = some (.int .i64 0) := (blk_cell BK237.out 2).trans rfl; have hfz63_0 := blk_frozen BK237.out 0; have hfz63_1 := blk_frozen BK237.out 1; have hfz63_2 := blk_frozen BK237.out 2))
                                  go_roundg k4
                                  case measure => have := HK1.out; have := HJ10.out; have := HJ37.out; have := HK4.out; omega
                                  case rel => exact ⟨(wrap64 (x7_4 + (wrap64 (((rd_T81 ((rd_T45 l1 x22_1).f1.f0) x88_4).f0) + ((rd_T81 ((rd_T45 l1 x22_1).f1.f0) x88_4).f2))))), (wrap64 (x88_4 + 1)), (by first | rfl | (simp; done) | (simp [*]; done)), (by first | rfl | (simp; done) | (simp [*]; done)), H', ⟨by have := HK1.out; have := HJ10.out; have := HJ37.out; have := HK4.out; omega⟩, ⟨by (with_reducible repeat (first | apply Kd.R_alloc | apply Kd.R_drewN | apply Kd.R_drew)); exact Kd.R_mono (Kd.R_far (p := ⟨gb237, 2, none⟩) (Kd.R_far (p := ⟨gb237, 1, none⟩) (Kd.R_far (p := ⟨gb237, 0, none⟩) (Kd.R_mono HO_226000.out (fun k_ hk => (⟨hk, hk.2⟩ : _ ∧ k_ ≠ gb237))) (fun _ hk => hk.2) (.int .i64 ((rd_T81 ((rd_T45 l1 x22_1).f1.f0) x88_4).f0))) (fun _ hk => hk.2) (.int .i64 ((rd_T81 ((rd_T45 l1 x22_1).f1.f0) x88_4).f1))) (fun _ hk => hk.2) (.int .i64 ((rd_T81 ((rd_T45 l1 x22_1).f1.f0) x88_4).f2))) (fun _ hk => trivial)⟩, ⟨by (with_reducible repeat (first | apply Kd.R_alloc | apply Kd.R_drewN | apply Kd.R_drew)); exact Kd.R_mono (Kd.R_far (p := ⟨gb237, 2, none⟩) (Kd.R_far (p := ⟨gb237, 1, none⟩) (Kd.R_far (p := ⟨gb237, 0, none⟩) (Kd.R_types HO_226001.out BK237.out (by decide)) (fun _ hk => hk.2) (.int .i64 ((rd_T81 ((rd_T45 l1 x22_1).f1.f0) x88_4).f0))) (fun _ hk => hk.2) (.int .i64 ((rd_T81 ((rd_T45 l1 x22_1).f1.f0) x88_4).f1))) (fun _ hk => hk.2) (.int .i64 ((rd_T81 ((rd_T45 l1 x22_1).f1.f0) x88_4).f2))) (fun _ hk => hk.1)⟩, ⟨by (with_reducible repeat (first | apply Kd.R_alloc | apply Kd.R_drewN | apply Kd.R_drew)); exact Kd.R_mono (Kd.R_far (p := ⟨gb237, 2, none⟩) (Kd.R_far (p := ⟨gb237, 1, none⟩) (Kd.R_far (p := ⟨gb237, 0, none⟩) (Kd.R_types HO_226002.out BK237.out (by decide)) (fun _ hk => hk.2) (.int .i64 ((rd_T81 ((rd_T45 l1 x22_1).f1.f0) x88_4).f0))) (fun _ hk => hk.2) (.int .i64 ((rd_T81 ((rd_T45 l1 x22_1).f1.f0) x88_4).f1))) (fun _ hk => hk.2) (.int .i64 ((rd_T81 ((rd_T45 l1 x22_1).f1.f0) x88_4).f2))) (fun _ hk => hk.1)⟩, ⟨by (with_reducible repeat (first | refine blk_drewN ?_ _ | refine blk_drew ?_ | refine blk_alloc ?_ _)); refine blk_far ?_ NB223_237.out _; (with_reducible repeat (first | refine blk_drewN ?_ _ | refine blk_drew ?_ | refine blk_alloc ?_ _)); refine blk_far ?_ NB223_237.out _; (with_reducible repeat (first | refine blk_drewN ?_ _ | refine blk_drew ?_ | refine blk_alloc ?_ _)); refine blk_far ?_ NB223_237.out _; (with_reducible repeat (first | refine blk_drewN ?_ _ | refine blk_drew ?_ | refine blk_alloc ?_ _)); exact BK223.out⟩, ⟨by (with_reducible repeat (first | refine blk_drewN ?_ _ | refine blk_drew ?_ | refine blk_alloc ?_ _)); refine blk_far ?_ NB225_237.out _; (with_reducible repeat (first | refine blk_drewN ?_ _ | refine blk_drew ?_ | refine blk_alloc ?_ _)); refine blk_far ?_ NB225_237.out _; (with_reducible repeat (first | refine blk_drewN ?_ _ | refine blk_drew ?_ | refine blk_alloc ?_ _)); refine blk_far ?_ NB225_237.out _; (with_reducible repeat (first | refine blk_drewN ?_ _ | refine blk_drew ?_ | refine blk_alloc ?_ _)); exact BK225.out⟩, ⟨by (with_reducible repeat (first | refine blk_drewN ?_ _ | refine blk_drew ?_ | refine blk_alloc ?_ _)); refine blk_far ?_ NB227_237.out _; (with_reducible repeat (first | refine blk_drewN ?_ _ | refine blk_drew ?_ | refine blk_alloc ?_ _)); refine blk_far ?_ NB227_237.out _; (with_reducible repeat (first | refine blk_drewN ?_ _ | refine blk_drew ?_ | refine blk_alloc ?_ _)); refine blk_far ?_ NB227_237.out _; (with_reducible repeat (first | refine blk_drewN ?_ _ | refine blk_drew ?_ | refine blk_alloc ?_ _)); exact BK227.out⟩, ⟨by repeat (first | (with_reducible first | exact HB.out | apply below_alloc | apply pw_below_drewN | apply below_drew1 | refine below_set ?_ GE223.out | refine below_set ?_ GE225.out | refine below_set ?_ GE227.out | refine below_set ?_ GE237.out) | exact HB.out)⟩⟩
                                · rw [if_neg c58] at H
                                  exact absurd H (by simp)
                              · rw [if_neg c57] at H
                                exact absurd H (by simp)
                            · rw [if_neg c56] at H
                              have c56b0 : decide (x88_4 < (((rd_T45 l1 x22_1).f1.f0).length : Int)) = false := decide_eq_false c56
                              clear c56
                              by_cases c64 : x226000_37.length + ((rd_T45 l1 x22_1).f1.f0).length < 5864062014805
                              · rw [if_pos c64] at H
                                have LMc64 := Aside0.mk c64
                                clear c64
                                obtain ⟨y238, hy238⟩ : ∃ y_ : List (S81), y_ = (x226000_37 ++ ((rd_T45 l1 x22_1).f1.f0)) := ⟨_, rfl⟩
                                replace H : (if x226001_1.length + ((rd_T45 l1 x22_1).f1.f1).length < 140737488355328 then (if x226002_1.length + ((rd_T45 l1 x22_1).f1.f2).length < 140737488355328 then (sapperref17_Join.l0 k4 a0 l1 x7_4 l1 (l1.length : Int) (wrap64 (x22_1 + 1)) y238 (x226001_1 ++ ((rd_T45 l1 x22_1).f1.f1)) (x226002_1 ++ ((rd_T45 l1 x22_1).f1.f2))) else (none)) else (none)) = some (r1, r2, r3, r4) := by first | (rw [hy238]; with_reducible exact H) | (have H2_ := (Option.bind_some _ _).symm.trans H; rw [hy238]; with_reducible exact H2_) | (have H2_ := (Option.bind_some _ _).symm.trans H; with_reducible exact H2_) | with_reducible exact H | (rw [hy238]; exact H) | exact H
                                have Ny238 := Aside0.mk hy238
                                clear hy238
                                by_cases c65 : x226001_1.length + ((rd_T45 l1 x22_1).f1.f1).length < 140737488355328
                                · rw [if_pos c65] at H
                                  have LMc65 := Aside0.mk c65
                                  clear c65
                                  obtain ⟨y241, hy241⟩ : ∃ y_ : List Int, y_ = (x226001_1 ++ ((rd_T45 l1 x22_1).f1.f1)) := ⟨_, rfl⟩
                                  replace H : (if x226002_1.length + ((rd_T45 l1 x22_1).f1.f2).length < 140737488355328 then (sapperref17_Join.l0 k4 a0 l1 x7_4 l1 (l1.length : Int) (wrap64 (x22_1 + 1)) y238 y241 (x226002_1 ++ ((rd_T45 l1 x22_1).f1.f2))) else (none)) = some (r1, r2, r3, r4) := by first | (rw [hy241]; with_reducible exact H) | (have H2_ := (Option.bind_some _ _).symm.trans H; rw [hy241]; with_reducible exact H2_) | (have H2_ := (Option.bind_some _ _).symm.trans H; with_reducible exact H2_) | with_reducible exact H | (rw [hy241]; exact H) | exact H
                                  have Ny241 := Aside0.mk hy241
                                  clear hy241
                                  by_cases c66 : x226002_1.length + ((rd_T45 l1 x22_1).f1.f2).length < 140737488355328
                                  · rw [if_pos c66] at H
                                    have LMc66 := Aside0.mk c66
                                    clear c66
                                    obtain ⟨y244, hy244⟩ : ∃ y_ : List Int, y_ = (x226002_1 ++ ((rd_T45 l1 x22_1).f1.f2)) := ⟨_, rfl⟩
                                    replace H : (sapperref17_Join.l0 k4 a0 l1 x7_4 l1 (l1.length : Int) (wrap64 (x22_1 + 1)) y238 y241 y244) = some (r1, r2, r3, r4) := by first | (rw [hy244]; with_reducible exact H) | (have H2_ := (Option.bind_some _ _).symm.trans H; rw [hy244]; with_reducible exact H2_) | (have H2_ := (Option.bind_some _ _).symm.trans H; with_reducible exact H2_) | with_reducible exact H | (rw [hy244]; exact H) | exact H
                                    have Ny244 := Aside0.mk hy244
                                    clear hy244
                                    have H' := Aside0.mk H
                                    clear H
                                    have hnb67 := NB225_223.out
                                    have hnc67 := NB223_225.out
                                    have hnb68 := NB225_227.out
                                    have hnc68 := NB227_225.out
                                    have hcz69_0 : wr.cell? ⟨gb225, 0, none⟩ = some (u226000) := (blk_cell BK225.out 0).trans rfl
                                    have hcz69_1 : wr.cell? ⟨gb225, 1, none⟩ = some (u226001) := (blk_cell BK225.out 1).trans rfl
                                    have hcz69_2 : wr.cell? ⟨gb225, 2, none⟩ = some (u226002) := (blk_cell BK225.out 2).trans rfl
                                    have hfz69_0 := blk_frozen BK225.out 0
                                    have hfz69_1 := blk_frozen BK225.out 1
                                    have hfz69_2 := blk_frozen BK225.out 2
                                    have hnb70 := NB227_223.out
                                    have hnc70 := NB223_227.out
                                    have hcz71_0 : wr.cell? ⟨gb227, 0, none⟩ = some (.int .i64 ((rd_T45 l1 x22_1).f0)) := (blk_cell BK227.out 0).trans rfl
                                    have hcz71_1 : wr.cell? ⟨gb227, 1, none⟩ = some (.slice A226_1 ((rd_T45 l1 x22_1).f1.f0).length c226_1) := (blk_cell BK227.out 1).trans rfl
                                    have hcz71_2 : wr.cell? ⟨gb227, 2, none⟩ = some (.slice A226_2 ((rd_T45 l1 x22_1).f1.f1).length c226_2) := (blk_cell BK227.out 2).trans rfl
                                    have hcz71_3 : wr.cell? ⟨gb227, 3, none⟩ = some (.slice A226_3 ((rd_T45 l1 x22_1).f1.f2).length c226_3) := (blk_cell BK227.out 3).trans rfl
                                    have hfz71_0 := blk_frozen BK227.out 0
                                    have hfz71_1 := blk_frozen BK227.out 1
                                    have hfz71_2 := blk_frozen BK227.out 2
                                    have hfz71_3 := blk_frozen BK227.out 3
                                    go_wp2_with (first | ((with_reducible refine gate_builtin (b := .append) (xs := #[.tmp 101, .tmp 104]) rfl ?_); (try (refine gate_guard (by rfl) ?_; dsimp only)); at_builtin; refine Kd.R_append_rows k81 (w0 := w) w.heap.size rfl (.tmp 101) (.tmp 104) 23 81 (.agg #[(.int .i64 0), (.int .i64 0), (.int .i64 0)]) 24 rfl Try.underlying23 info81 rfl (by decide) (by omega) u226000 x226000_37 ((rd_T45 l1 x22_1).f1.f0) _ _ _ (fun _ => True) (fun _ => False) rfl rfl ?aO ?aR (fun _ _ h => h) (fun _ h => h.elim) ?aF ?aB ?aS ?aL ?_; (case aR => repeat (first | exact (Kd.C_below HR226_1.out HB.out) | (with_reducible refine Kd.C_alloc ?_ _) | (with_reducible refine Kd.C_drewN ?_ _) | (with_reducible refine Kd.C_drew ?_))); (case aB => exact (by repeat (first | (with_reducible first | exact HB.out | apply below_alloc | apply pw_below_drewN | apply below_drew1 | refine below_set ?_ GE223.out | refine below_set ?_ GE225.out | refine below_set ?_ GE227.out) | exact HB.out))); (case aF => exact (fun _ _ => trivial)); (case aO => exact (by (with_reducible repeat (first | apply Kd.R_alloc | apply Kd.R_drewN | apply Kd.R_drew)); exact HO_226000.out)); (case aS => exact (below_size (by repeat (first | (with_reducible first | exact HB.out | apply below_alloc | apply pw_below_drewN | apply below_drew1 | refine below_set ?_ GE223.out | refine below_set ?_ GE225.out | refine below_set ?_ GE227.out) | exact HB.out)))); (case aL => have := LMc64.out; omega); intro v239 w72 ho hb hg hat; rw [← Ny238.out] at ho; have n0_ := Aside0.mk (Kd.R_over' (by (with_reducible repeat (first | apply Kd.R_alloc | apply Kd.R_drewN | apply Kd.R_drew)); exact HO_226001.out) (Kd.R_typed (by (with_reducible repeat (first | apply Kd.R_alloc | apply Kd.R_drewN | apply Kd.R_drew)); exact HO_226000.out)) (by decide) hg); have n1_ := Aside0.mk (Kd.R_over' (by (with_reducible repeat (first | apply Kd.R_alloc | apply Kd.R_drewN | apply Kd.R_drew)); exact HO_226002.out) (Kd.R_typed (by (with_reducible repeat (first | apply Kd.R_alloc | apply Kd.R_drewN | apply Kd.R_drew)); exact HO_226000.out)) (by decide) hg); have n2_ := Aside0.mk (blk_grown (g := gb223) (o := .cells #[.slice none 0 0, .slice none 0 0, .slice none 0 0] 26 (0, 0)) (by (with_reducible repeat (first | refine blk_drewN ?_ _ | refine blk_drew ?_ | refine blk_alloc ?_ _)); exact BK223.out) hg (Kd.R_ne HO_226000.out BK223.out (by decide))); have n3_ := Aside0.mk (blk_grown (g := gb225) (o := .cells #[u226000, u226001, u226002] 26 (0, 0)) (by (with_reducible repeat (first | refine blk_drewN ?_ _ | refine blk_drew ?_ | refine blk_alloc ?_ _)); exact BK225.out) hg (Kd.R_ne HO_226000.out BK225.out (by decide))); have n4_ := Aside0.mk (blk_grown (g := gb227) (o := .cells #[.int .i64 ((rd_T45 l1 x22_1).f0), .slice A226_1 ((rd_T45 l1 x22_1).f1.f0).length c226_1, .slice A226_2 ((rd_T45 l1 x22_1).f1.f1).length c226_2, .slice A226_3 ((rd_T45 l1 x22_1).f1.f2).length c226_3] 45 (0, 0)) (by (with_reducible repeat (first | refine blk_drewN ?_ _ | refine blk_drew ?_ | refine blk_alloc ?_ _)); exact BK227.out) hg (Kd.R_ne HO_226000.out BK227.out (by decide))); have n5_ := Aside0.mk (hb); have n6_ := Aside0.mk (ho); clear HO_226001; clear HO_226002; clear BK223; clear BK225; clear BK227; clear HB; clear HO_226000; have HO_226001 := n0_; have HO_226002 := n1_; have BK223 := n2_; have BK225 := n3_; have BK227 := n4_; have HB := n5_; have HO240 := n6_; clear n0_ n1_ n2_ n3_ n4_ n5_ n6_; clear ho hb hg hat; obtain ⟨Ao73, co73, eo73⟩ := Kd.R_slice HO240.out; subst eo73; have hcz74_0 : w72.cell? ⟨gb225, 0, none⟩ = some (u226000) := (blk_cell BK225.out 0).trans rfl; have hcz74_1 : w72.cell? ⟨gb225, 1, none⟩ = some (u226001) := (blk_cell BK225.out 1).trans rfl; have hcz74_2 : w72.cell? ⟨gb225, 2, none⟩ = some (u226002) := (blk_cell BK225.out 2).trans rfl; have hfz74_0 := blk_frozen BK225.out 0; have hfz74_1 := blk_frozen BK225.out 1; have hfz74_2 := blk_frozen BK225.out 2; have hcz75_0 : w72.cell? ⟨gb227, 0, none⟩ = some (.int .i64 ((rd_T45 l1 x22_1).f0)) := (blk_cell BK227.out 0).trans rfl; have hcz75_1 : w72.cell? ⟨gb227, 1, none⟩ = some (.slice A226_1 ((rd_T45 l1 x22_1).f1.f0).length c226_1) := (blk_cell BK227.out 1).trans rfl; have hcz75_2 : w72.cell? ⟨gb227, 2, none⟩ = some (.slice A226_2 ((rd_T45 l1 x22_1).f1.f1).length c226_2) := (blk_cell BK227.out 2).trans rfl; have hcz75_3 : w72.cell? ⟨gb227, 3, none⟩ = some (.slice A226_3 ((rd_T45 l1 x22_1).f1.f2).length c226_3) := (blk_cell BK227.out 3).trans rfl; have hfz75_0 := blk_frozen BK227.out 0; have hfz75_1 := blk_frozen BK227.out 1; have hfz75_2 := blk_frozen BK227.out 2; have hfz75_3 := blk_frozen BK227.out 3) | ((with_reducible refine gate_builtin (b := .append) (xs := #[.tmp 108, .tmp 111]) rfl ?_); (try (refine gate_guard (by rfl) ?_; dsimp only)); at_builtin; refine Kd.R_append_rows (Kd.int .u8) (w0 := w) w.heap.size rfl (.tmp 108) (.tmp 111) 24 5 (.int .u8 0) 1 rfl Try.underlying24 info5 rfl (by decide) (by omega) u226001 x226001_1 ((rd_T45 l1 x22_1).f1.f1) _ _ _ (fun k_ => some k_ ≠ (u226002 : Value).ownBlock) (fun _ => False) rfl rfl ?aO ?aR (fun _ _ h => h) (fun _ h => h.elim) ?aF ?aB ?aS ?aL ?_; (case aR => exact Kd.C_below HR226_2.out (by repeat (first | (with_reducible first | exact HB.out | apply below_alloc | apply pw_below_drewN | apply below_drew1 | refine below_set ?_ GE223.out | refine below_set ?_ GE225.out | refine below_set ?_ GE227.out) | exact HB.out))); (case aB => exact (by repeat (first | (with_reducible first | exact HB.out | apply below_alloc | apply pw_below_drewN | apply below_drew1 | refine below_set ?_ GE223.out | refine below_set ?_ GE225.out | refine below_set ?_ GE227.out) | exact HB.out))); (case aF => exact (fun k_ hk => Kd.fresh' (Kd.R_lt (by (with_reducible repeat (first | apply Kd.R_alloc | apply Kd.R_drewN | apply Kd.R_drew)); exact (Kd.R_mono (Kd.R_far (p := ⟨gb225, 0, none⟩) (Kd.R_types HO_226002.out BK225.out (by decide)) (fun _ hk => hk.2) (.slice Ao73 y238.length co73)) (fun _ h_ => h_.1)))) k_ hk)); (case aO => exact (by (with_reducible repeat (first | apply Kd.R_alloc | apply Kd.R_drewN | apply Kd.R_drew)); exact Kd.R_mono (Kd.R_far (p := ⟨gb225, 0, none⟩) (Kd.R_types HO_226001.out BK225.out (by decide)) (fun _ hk => hk.2) (.slice Ao73 y238.length co73)) (fun _ hk => hk.1))); (case aS => exact (below_size (by repeat (first | (with_reducible first | exact HB.out | apply below_alloc | apply pw_below_drewN | apply below_drew1 | refine below_set ?_ GE223.out | refine below_set ?_ GE225.out | refine below_set ?_ GE227.out) | exact HB.out)))); (case aL => have := LMc65.out; omega); intro v242 w76 ho hb hg hat; rw [← Ny241.out] at ho; have n0_ := Aside0.mk (Kd.R_after (ok := (fun _ => True)) (by (with_reducible repeat (first | apply Kd.R_alloc | apply Kd.R_drewN | apply Kd.R_drew)); exact Kd.R_mono (Kd.R_far (p := ⟨gb225, 0, none⟩) (Kd.R_types HO_226002.out BK225.out (by decide)) (fun _ hk => hk.2) (.slice Ao73 y238.length co73)) (fun _ hk => ⟨trivial, hk.1⟩)) hg hat); have n1_ := Aside0.mk (blk_grown (g := gb223) (o := .cells #[.slice none 0 0, .slice none 0 0, .slice none 0 0] 26 (0, 0)) (by (with_reducible repeat (first | refine blk_drewN ?_ _ | refine blk_drew ?_ | refine blk_alloc ?_ _)); refine blk_far ?_ NB223_225.out _; (with_reducible repeat (first | refine blk_drewN ?_ _ | refine blk_drew ?_ | refine blk_alloc ?_ _)); exact BK223.out) hg (Kd.R_ne HO_226001.out BK223.out (by decide))); have n2_ := Aside0.mk (blk_grown (g := gb225) (o := .cells #[.slice Ao73 y238.length co73, u226001, u226002] 26 (0, 0)) (by (with_reducible repeat (first | refine blk_drewN ?_ _ | refine blk_drew ?_ | refine blk_alloc ?_ _)); refine blk_put (cs := #[u226000, u226001, u226002]) ?_ 0 _ rfl; (with_reducible repeat (first | refine blk_drewN ?_ _ | refine blk_drew ?_ | refine blk_alloc ?_ _)); exact BK225.out) hg (Kd.R_ne HO_226001.out BK225.out (by decide))); have n3_ := Aside0.mk (blk_grown (g := gb227) (o := .cells #[.int .i64 ((rd_T45 l1 x22_1).f0), .slice A226_1 ((rd_T45 l1 x22_1).f1.f0).length c226_1, .slice A226_2 ((rd_T45 l1 x22_1).f1.f1).length c226_2, .slice A226_3 ((rd_T45 l1 x22_1).f1.f2).length c226_3] 45 (0, 0)) (by (with_reducible repeat (first | refine blk_drewN ?_ _ | refine blk_drew ?_ | refine blk_alloc ?_ _)); refine blk_far ?_ NB227_225.out _; (with_reducible repeat (first | refine blk_drewN ?_ _ | refine blk_drew ?_ | refine blk_alloc ?_ _)); exact BK227.out) hg (Kd.R_ne HO_226001.out BK227.out (by decide))); have n4_ := Aside0.mk (Kd.R_over' (by (with_reducible repeat (first | apply Kd.R_alloc | apply Kd.R_drewN | apply Kd.R_drew)); exact (Kd.R_mono (Kd.R_far (p := ⟨gb225, 0, none⟩) (Kd.R_types HO240.out BK225.out (by decide)) (fun _ hk => hk.2) (.slice Ao73 y238.length co73)) (fun _ h_ => h_.1))) (Kd.R_typed (by (with_reducible repeat (first | apply Kd.R_alloc | apply Kd.R_drewN | apply Kd.R_drew)); exact (Kd.R_mono (Kd.R_far (p := ⟨gb225, 0, none⟩) (Kd.R_types HO_226001.out BK225.out (by decide)) (fun _ hk => hk.2) (.slice Ao73 y238.length co73)) (fun _ h_ => h_.1)))) (by decide) hg); have n5_ := Aside0.mk (hb); have n6_ := Aside0.mk (ho); clear HO_226002; clear BK223; clear BK225; clear BK227; clear HO240; clear HB; clear HO_226001; have HO_226002 := n0_; have BK223 := n1_; have BK225 := n2_; have BK227 := n3_; have HO240 := n4_; have HB := n5_; have HO243 := n6_; clear n0_ n1_ n2_ n3_ n4_ n5_ n6_; clear ho hb hg hat; obtain ⟨Ao77, co77, eo77⟩ := Kd.R_slice HO243.out; subst eo77; have hcz78_0 : w76.cell? ⟨gb225, 0, none⟩ = some (.slice Ao73 y238.length co73) := (blk_cell BK225.out 0).trans rfl; have hcz78_1 : w76.cell? ⟨gb225, 1, none⟩ = some (u226001) := (blk_cell BK225.out 1).trans rfl; have hcz78_2 : w76.cell? ⟨gb225, 2, none⟩ = some (u226002) := (blk_cell BK225.out 2).trans rfl; have hfz78_0 := blk_frozen BK225.out 0; have hfz78_1 := blk_frozen BK225.out 1; have hfz78_2 := blk_frozen BK225.out 2; have hcz79_0 : w76.cell? ⟨gb227, 0, none⟩ = some (.int .i64 ((rd_T45 l1 x22_1).f0)) := (blk_cell BK227.out 0).trans rfl; have hcz79_1 : w76.cell? ⟨gb227, 1, none⟩ = some (.slice A226_1 ((rd_T45 l1 x22_1).f1.f0).length c226_1) := (blk_cell BK227.out 1).trans rfl; have hcz79_2 : w76.cell? ⟨gb227, 2, none⟩ = some (.slice A226_2 ((rd_T45 l1 x22_1).f1.f1).length c226_2) := (blk_cell BK227.out 2).trans rfl; have hcz79_3 : w76.cell? ⟨gb227, 3, none⟩ = some (.slice A226_3 ((rd_T45 l1 x22_1).f1.f2).length c226_3) := (blk_cell BK227.out 3).trans rfl; have hfz79_0 := blk_frozen BK227.out 0; have hfz79_1 := blk_frozen BK227.out 1; have hfz79_2 := blk_frozen BK227.out 2; have hfz79_3 := blk_frozen BK227.out 3) | ((with_reducible refine gate_builtin (b := .append) (xs := #[.tmp 115, .tmp 118]) rfl ?_); (try (refine gate_guard (by rfl) ?_; dsimp only)); at_builtin; refine Kd.R_append_rows (Kd.int .u8) (w0 := w) w.heap.size rfl (.tmp 115) (.tmp 118) 24 5 (.int .u8 0) 1 rfl Try.underlying24 info5 rfl (by decide) (by omega) u226002 x226002_1 ((rd_T45 l1 x22_1).f1.f2) _ _ _ (fun k_ => some k_ ≠ (.slice Ao77 y241.length co77 : Value).ownBlock) (fun _ => False) rfl rfl ?aO ?aR (fun _ _ h => h) (fun _ h => h.elim) ?aF ?aB ?aS ?aL ?_; (case aR => exact Kd.C_below HR226_3.out (by repeat (first | (with_reducible first | exact HB.out | apply below_alloc | apply pw_below_drewN | apply below_drew1 | refine below_set ?_ GE223.out | refine below_set ?_ GE225.out | refine below_set ?_ GE227.out) | exact HB.out))); (case aB => exact (by repeat (first | (with_reducible first | exact HB.out | apply below_alloc | apply pw_below_drewN | apply below_drew1 | refine below_set ?_ GE223.out | refine below_set ?_ GE225.out | refine below_set ?_ GE227.out) | exact HB.out))); (case aF => exact (fun k_ hk => Kd.fresh' (Kd.R_lt (by (with_reducible repeat (first | apply Kd.R_alloc | apply Kd.R_drewN | apply Kd.R_drew)); exact (Kd.R_mono (Kd.R_far (p := ⟨gb225, 1, none⟩) (Kd.R_types HO243.out BK225.out (by decide)) (fun _ hk => hk.2) (.slice Ao77 y241.length co77)) (fun _ h_ => h_.1)))) k_ hk)); (case aO => exact (by (with_reducible repeat (first | apply Kd.R_alloc | apply Kd.R_drewN | apply Kd.R_drew)); exact Kd.R_mono (Kd.R_far (p := ⟨gb225, 1, none⟩) (Kd.R_types HO_226002.out BK225.out (by decide)) (fun _ hk => hk.2) (.slice Ao77 y241.length co77)) (fun _ hk => hk.1.2))); (case aS => exact (below_size (by repeat (first | (with_reducible first | exact HB.out | apply below_alloc | apply pw_below_drewN | apply below_drew1 | refine below_set ?_ GE223.out | refine below_set ?_ GE225.out | refine below_set ?_ GE227.out) | exact HB.out)))); (case aL => have := LMc66.out; omega); intro v245 w80 ho hb hg hat; rw [← Ny244.out] at ho; have n0_ := Aside0.mk (blk_grown (g := gb223) (o := .cells #[.slice none 0 0, .slice none 0 0, .slice none 0 0] 26 (0, 0)) (by (with_reducible repeat (first | refine blk_drewN ?_ _ | refine blk_drew ?_ | refine blk_alloc ?_ _)); refine blk_far ?_ NB223_225.out _; (with_reducible repeat (first | refine blk_drewN ?_ _ | refine blk_drew ?_ | refine blk_alloc ?_ _)); exact BK223.out) hg (Kd.R_ne HO_226002.out BK223.out (by decide))); have n1_ := Aside0.mk (blk_grown (g := gb225) (o := .cells #[.slice Ao73 y238.length co73, .slice Ao77 y241.length co77, u226002] 26 (0, 0)) (by (with_reducible repeat (first | refine blk_drewN ?_ _ | refine blk_drew ?_ | refine blk_alloc ?_ _)); refine blk_put (cs := #[.slice Ao73 y238.length co73, u226001, u226002]) ?_ 1 _ rfl; (with_reducible repeat (first | refine blk_drewN ?_ _ | refine blk_drew ?_ | refine blk_alloc ?_ _)); exact BK225.out) hg (Kd.R_ne HO_226002.out BK225.out (by decide))); have n2_ := Aside0.mk (blk_grown (g := gb227) (o := .cells #[.int .i64 ((rd_T45 l1 x22_1).f0), .slice A226_1 ((rd_T45 l1 x22_1).f1.f0).length c226_1, .slice A226_2 ((rd_T45 l1 x22_1).f1.f1).length c226_2, .slice A226_3 ((rd_T45 l1 x22_1).f1.f2).length c226_3] 45 (0, 0)) (by (with_reducible repeat (first | refine blk_drewN ?_ _ | refine blk_drew ?_ | refine blk_alloc ?_ _)); refine blk_far ?_ NB227_225.out _; (with_reducible repeat (first | refine blk_drewN ?_ _ | refine blk_drew ?_ | refine blk_alloc ?_ _)); exact BK227.out) hg (Kd.R_ne HO_226002.out BK227.out (by decide))); have n3_ := Aside0.mk (Kd.R_over' (by (with_reducible repeat (first | apply Kd.R_alloc | apply Kd.R_drewN | apply Kd.R_drew)); exact (Kd.R_mono (Kd.R_far (p := ⟨gb225, 1, none⟩) (Kd.R_types HO240.out BK225.out (by decide)) (fun _ hk => hk.2) (.slice Ao77 y241.length co77)) (fun _ h_ => h_.1))) (Kd.R_typed (by (with_reducible repeat (first | apply Kd.R_alloc | apply Kd.R_drewN | apply Kd.R_drew)); exact (Kd.R_mono (Kd.R_far (p := ⟨gb225, 1, none⟩) (Kd.R_types HO_226002.out BK225.out (by decide)) (fun _ hk => hk.2) (.slice Ao77 y241.length co77)) (fun _ h_ => h_.1)))) (by decide) hg); have n4_ := Aside0.mk (Kd.R_after (ok := (fun _ => True)) (by (with_reducible repeat (first | apply Kd.R_alloc | apply Kd.R_drewN | apply Kd.R_drew)); exact Kd.R_mono (Kd.R_far (p := ⟨gb225, 1, none⟩) (Kd.R_types HO243.out BK225.out (by decide)) (fun _ hk => hk.2) (.slice Ao77 y241.length co77)) (fun _ hk => ⟨trivial, hk.1⟩)) hg hat); have n5_ := Aside0.mk (hb); have n6_ := Aside0.mk (ho); clear BK223; clear BK225; clear BK227; clear HO240; clear HO243; clear HB; clear HO_226002; have BK223 := n0_; have BK225 := n1_; have BK227 := n2_; have HO240 := n3_; have HO243 := n4_; have HB := n5_; have HO246 := n6_; clear n0_ n1_ n2_ n3_ n4_ n5_ n6_; clear ho hb hg hat; obtain ⟨Ao81, co81, eo81⟩ := Kd.R_slice HO246.out; subst eo81; have hcz82_0 : w80.cell? ⟨gb225, 0, none⟩ = some (.slice Ao73 y238.length co73) := (blk_cell BK225.out 0).trans rfl; have hcz82_1 : w80.cell? ⟨gb225, 1, none⟩ = some (.slice Ao77 y241.length co77) := (blk_cell BK225.out 1).trans rfl; have hcz82_2 : w80.cell? ⟨gb225, 2, none⟩ = some (u226002) := (blk_cell BK225.out 2).trans rfl; have hfz82_0 := blk_frozen BK225.out 0; have hfz82_1 := blk_frozen BK225.out 1; have hfz82_2 := blk_frozen BK225.out 2))
                                    go_roundg k4
                                    case measure => have := HK1.out; have := HJ10.out; have := HJ37.out; have := HK4.out; omega
                                    case rel => exact ⟨(x7_4), (wrap64 (x22_1 + 1)), (y238), (y241), (y244), (.slice Ao73 y238.length co73), (.slice Ao77 y241.length co77), (.slice Ao81 y244.length co81), (by first | rfl | (simp; done) | (simp [*]; done)), (by first | rfl | (simp; done) | (simp [*]; done)), H', ⟨by have := HK1.out; have := HJ10.out; have := HJ37.out; have := HK4.out; omega⟩, ⟨by (with_reducible repeat (first | apply Kd.R_alloc | apply Kd.R_drewN | apply Kd.R_drew)); exact Kd.R_mono (Kd.R_far (p := ⟨gb225, 2, none⟩) (Kd.R_types HO240.out BK225.out (by decide)) (fun _ hk => hk.2) (.slice Ao81 y244.length co81)) (fun _ hk => trivial)⟩, ⟨by (with_reducible repeat (first | apply Kd.R_alloc | apply Kd.R_drewN | apply Kd.R_drew)); exact Kd.R_mono (Kd.R_far (p := ⟨gb225, 2, none⟩) (Kd.R_types HO243.out BK225.out (by decide)) (fun _ hk => hk.2) (.slice Ao81 y244.length co81)) (fun _ hk => hk.1.2)⟩, ⟨by (with_reducible repeat (first | apply Kd.R_alloc | apply Kd.R_drewN | apply Kd.R_drew)); exact Kd.R_mono (Kd.R_far (p := ⟨gb225, 2, none⟩) (Kd.R_types HO246.out BK225.out (by decide)) (fun _ hk => hk.2) (.slice Ao81 y244.length co81)) (fun _ hk => hk.1)⟩, ⟨by (with_reducible repeat (first | refine blk_drewN ?_ _ | refine blk_drew ?_ | refine blk_alloc ?_ _)); refine blk_far ?_ NB223_225.out _; (with_reducible repeat (first | refine blk_drewN ?_ _ | refine blk_drew ?_ | refine blk_alloc ?_ _)); exact BK223.out⟩, ⟨by (with_reducible repeat (first | refine blk_drewN ?_ _ | refine blk_drew ?_ | refine blk_alloc ?_ _)); refine blk_put (cs := #[.slice Ao73 y238.length co73, .slice Ao77 y241.length co77, u226002]) ?_ 2 _ rfl; (with_reducible repeat (first | refine blk_drewN ?_ _ | refine blk_drew ?_ | refine blk_alloc ?_ _)); exact BK225.out⟩, ⟨by repeat (first | (with_reducible first | exact HB.out | apply below_alloc | apply pw_below_drewN | apply below_drew1 | refine below_set ?_ GE223.out | refine below_set ?_ GE225.out | refine below_set ?_ GE227.out) | exact HB.out)⟩⟩
                                  · rw [if_neg c66] at H
                                    exact absurd H (by simp)
                                · rw [if_neg c65] at H
                                  exact absurd H (by simp)
                              · rw [if_neg c64] at H
                                exact absurd H (by simp)
            · rw [if_neg c9] at H
              exact absurd H (by simp)
          · rw [if_neg c8] at H
            exact absurd H (by simp)
        · rw [if_neg c7] at H
          have c7b0 : decide (x22_1 < (l1.length : Int)) = false := decide_eq_false c7
          clear c7
          simp only [Option.some.injEq, Prod.mk.injEq] at H
          obtain ⟨rfl, rfl, rfl, rfl⟩ := H
          have hnb83 := NB225_223.out
          have hnc83 := NB223_225.out
          have hcz84_0 : wr.cell? ⟨gb225, 0, none⟩ = some (u226000) := (blk_cell BK225.out 0).trans rfl
          have hcz84_1 : wr.cell? ⟨gb225, 1, none⟩ = some (u226001) := (blk_cell BK225.out 1).trans rfl
          have hcz84_2 : wr.cell? ⟨gb225, 2, none⟩ = some (u226002) := (blk_cell BK225.out 2).trans rfl
          have hfz84_0 := blk_frozen BK225.out 0
          have hfz84_1 := blk_frozen BK225.out 1
          have hfz84_2 := blk_frozen BK225.out 2
          obtain ⟨Ao85, co85, eo85⟩ := Kd.R_slice HO_226000.out
          subst eo85
          have hcz86_0 : wr.cell? ⟨gb223, 0, none⟩ = some (.slice none 0 0) := (blk_cell BK223.out 0).trans rfl
          have hcz86_1 : wr.cell? ⟨gb223, 1, none⟩ = some (.slice none 0 0) := (blk_cell BK223.out 1).trans rfl
          have hcz86_2 : wr.cell? ⟨gb223, 2, none⟩ = some (.slice none 0 0) := (blk_cell BK223.out 2).trans rfl
          have hfz86_0 := blk_frozen BK223.out 0
          have hfz86_1 := blk_frozen BK223.out 1
          have hfz86_2 := blk_frozen BK223.out 2
          obtain ⟨Ao87, co87, eo87⟩ := Kd.R_slice HO_226001.out
          subst eo87
          obtain ⟨Ao88, co88, eo88⟩ := Kd.R_slice HO_226002.out
          subst eo88
          go_wp2
          refine bodyPost_ret (results_ct rfl _ _ gb223 26 #[.slice Ao85 x226000_1.length co85, .slice Ao87 x226001_1.length co87, .slice Ao88 x226002_1.length co88] (0, 0) _ rfl (by (with_reducible repeat (first | refine blk_drewN ?_ _ | refine blk_drew ?_ | refine blk_alloc ?_ _)); refine blk_put (cs := #[.slice Ao85 x226000_1.length co85, .slice Ao87 x226001_1.length co87, .slice none 0 0]) ?_ 2 _ rfl; (with_reducible repeat (first | refine blk_drewN ?_ _ | refine blk_drew ?_ | refine blk_alloc ?_ _)); refine blk_put (cs := #[.slice Ao85 x226000_1.length co85, .slice none 0 0, .slice none 0 0]) ?_ 1 _ rfl; (with_reducible repeat (first | refine blk_drewN ?_ _ | refine blk_drew ?_ | refine blk_alloc ?_ _)); refine blk_put (cs := #[.slice none 0 0, .slice none 0 0, .slice none 0 0]) ?_ 0 _ rfl; (with_reducible repeat (first | refine blk_drewN ?_ _ | refine blk_drew ?_ | refine blk_alloc ?_ _)); exact BK223.out) Try.underlying26 rfl (by kernel_rfl)) rfl ?_
          exact ⟨_, _, _, by first | rfl | (simp [errW_none, errW_some] <;> rfl) | (simp [*, errW_none, errW_some] <;> rfl), by (with_reducible repeat (first | apply Kd.R_alloc | apply Kd.R_drewN | apply Kd.R_drew)); exact Kd.R_mono (Kd.R_far (p := ⟨gb223, 2, none⟩) (Kd.R_far (p := ⟨gb223, 1, none⟩) (Kd.R_far (p := ⟨gb223, 0, none⟩) (Kd.R_types HO_226000.out BK223.out (by decide)) (fun _ hk => hk.2) (.slice Ao85 x226000_1.length co85)) (fun _ hk => hk.2) (.slice Ao87 x226001_1.length co87)) (fun _ hk => hk.2) (.slice Ao88 x226002_1.length co88)) (fun _ hk => trivial), by (with_reducible repeat (first | apply Kd.R_alloc | apply Kd.R_drewN | apply Kd.R_drew)); exact Kd.R_mono (Kd.R_far (p := ⟨gb223, 2, none⟩) (Kd.R_far (p := ⟨gb223, 1, none⟩) (Kd.R_far (p := ⟨gb223, 0, none⟩) (Kd.R_types HO_226001.out BK223.out (by decide)) (fun _ hk => hk.2) (.slice Ao85 x226000_1.length co85)) (fun _ hk => hk.2) (.slice Ao87 x226001_1.length co87)) (fun _ hk => hk.2) (.slice Ao88 x226002_1.length co88)) (fun _ hk => hk.1), by (with_reducible repeat (first | apply Kd.R_alloc | apply Kd.R_drewN | apply Kd.R_drew)); exact Kd.R_mono (Kd.R_far (p := ⟨gb223, 2, none⟩) (Kd.R_far (p := ⟨gb223, 1, none⟩) (Kd.R_far (p := ⟨gb223, 0, none⟩) (Kd.R_types HO_226002.out BK223.out (by decide)) (fun _ hk => hk.2) (.slice Ao85 x226000_1.length co85)) (fun _ hk => hk.2) (.slice Ao87 x226001_1.length co87)) (fun _ hk => hk.2) (.slice Ao88 x226002_1.length co88)) (fun _ hk => hk.1), by repeat (first | (with_reducible first | exact HB.out | apply below_alloc | apply pw_below_drewN | apply below_drew1 | refine below_set ?_ GE223.out | refine below_set ?_ GE225.out) | exact HB.out)⟩
  · replace c4 := Bool.eq_false_iff.mpr c4
    subst c4
    have H1 : (some (([] : List (S81)), ([] : List Int), ([] : List Int), 170)) = some (r1, r2, r3, r4) := by rw [if_neg (show ¬ (false = true) by decide)] at H; exact H
    clear H
    have H := H1
    clear H1
    simp only [Option.some.injEq, Prod.mk.injEq] at H
    obtain ⟨rfl, rfl, rfl, rfl⟩ := H
    go_enter Try.func29, Try.ntmps29
    go_wp2_with (first | ((with_reducible refine gate_dst (N := 4) rfl ?_); (try (refine gate_guard (by rfl) ?_; dsimp only)); refine box_event ?hg (N := 4) ?hd (cs := #[.slice none 0 0, .slice none 0 0, .slice none 0 0]) (t := 26) ?hr ?_; (case hd => rfl); (case hg => rfl); (case hr => first | (go_simp; done) | (go_simp; rfl)); intro gb223 hg w89 hbox hb; have n0_ := Aside0.mk (below_step (by repeat (first | (with_reducible first | exact HB.out | apply below_alloc | apply pw_below_drewN | apply below_drew1) | exact HB.out)) hb); have n1_ := Aside0.mk (hbox); have n2_ := Aside0.mk ((by rw [hg]; exact (below_size (by repeat (first | (with_reducible first | exact HB.out | apply below_alloc | apply pw_below_drewN | apply below_drew1) | exact HB.out))) : w.heap.size ≤ gb223)); have n3_ := Aside0.mk ((by rw [hg]; exact (below_size (by repeat (first | (with_reducible first | exact HB.out | apply below_alloc | apply pw_below_drewN | apply below_drew1) | exact HB.out))) : w.heap.size ≤ gb223)); clear HB; have HB := n0_; have BK223 := n1_; have GW223 := n2_; have GE223 := n3_; clear n0_ n1_ n2_ n3_; clear hb hbox hg) | ((with_reducible refine gate_callee (f := 43) rfl ?_); refine goesL_ (some 17) rfl rfl Try.func43 (by kernel_rfl) rfl #[.int .i64 a0, .int .i64 64, .int .i64 65536] rfl (by (try simp only [List.map_toArray, List.map_cons, List.map_nil]); first | done | rfl | (simp only [List.length_drop, List.length_take]; rfl)) ?_; (with_reducible refine (sapperref17_in.calls a0 64 65536 false _ A3.out).mono ?_); rintro e w' ⟨rfl, ⟨nd, rfl⟩⟩; refine ⟨_, rfl, ?_⟩; (try (rw [drewN_self w89]; generalize hq_ : World.drewN w89 _ = w89; have n0_ : Aside0 (w89.heap[gb223]? = some (.cells #[.slice none 0 0, .slice none 0 0, .slice none 0 0] 26 (0, 0))) := ⟨by rw [← hq_]; exact (by (with_reducible repeat (first | refine blk_drewN ?_ _ | refine blk_drew ?_ | refine blk_alloc ?_ _)); exact BK223.out)⟩; have n1_ : Aside0 (Below w.heap.size w w89) := ⟨by rw [← hq_]; exact (by repeat (first | (with_reducible first | exact HB.out | apply below_alloc | apply pw_below_drewN | apply below_drew1 | refine below_set ?_ GE223.out) | exact HB.out))⟩; clear BK223 HB hq_; have BK223 := n0_; have HB := n1_; clear n0_ n1_)); have hcz90_0 : w89.cell? ⟨gb223, 0, none⟩ = some (.slice none 0 0) := (blk_cell BK223.out 0).trans rfl; have hcz90_1 : w89.cell? ⟨gb223, 1, none⟩ = some (.slice none 0 0) := (blk_cell BK223.out 1).trans rfl; have hcz90_2 : w89.cell? ⟨gb223, 2, none⟩ = some (.slice none 0 0) := (blk_cell BK223.out 2).trans rfl; have hfz90_0 := blk_frozen BK223.out 0; have hfz90_1 := blk_frozen BK223.out 1; have hfz90_2 := blk_frozen BK223.out 2))
    refine bodyPost_ret (results_ct rfl _ _ gb223 26 #[.slice none 0 0, .slice none 0 0, .slice none 0 0] (0, 0) _ rfl (by (with_reducible repeat (first | refine blk_drewN ?_ _ | refine blk_drew ?_ | refine blk_alloc ?_ _)); refine blk_put (cs := #[.slice none 0 0, .slice none 0 0, .slice none 0 0]) ?_ 2 _ rfl; (with_reducible repeat (first | refine blk_drewN ?_ _ | refine blk_drew ?_ | refine blk_alloc ?_ _)); refine blk_put (cs := #[.slice none 0 0, .slice none 0 0, .slice none 0 0]) ?_ 1 _ rfl; (with_reducible repeat (first | refine blk_drewN ?_ _ | refine blk_drew ?_ | refine blk_alloc ?_ _)); refine blk_put (cs := #[.slice none 0 0, .slice none 0 0, .slice none 0 0]) ?_ 0 _ rfl; (with_reducible repeat (first | refine blk_drewN ?_ _ | refine blk_drew ?_ | refine blk_alloc ?_ _)); exact BK223.out) Try.underlying26 rfl (by kernel_rfl)) rfl ?_
    exact ⟨_, _, _, by first | rfl | (simp [errW_none, errW_some] <;> rfl) | (simp [*, errW_none, errW_some] <;> rfl), by first | exact Kd.R_nil _ _ _ _ _ | exact Kd.N_nil _ _ _ _ _ | exact Kd.V_nil _ _ _ _ _ | exact Kd.Q_nil _ _ _ _ _ | exact Kd.S_nil _ _ _ _ _, by first | exact Kd.R_nil _ _ _ _ _ | exact Kd.N_nil _ _ _ _ _ | exact Kd.V_nil _ _ _ _ _ | exact Kd.Q_nil _ _ _ _ _ | exact Kd.S_nil _ _ _ _ _, by first | exact Kd.R_nil _ _ _ _ _ | exact Kd.N_nil _ _ _ _ _ | exact Kd.V_nil _ _ _ _ _ | exact Kd.Q_nil _ _ _ _ _ | exact Kd.S_nil _ _ _ _ _, by repeat (first | (with_reducible first | exact HB.out | apply below_alloc | apply pw_below_drewN | apply below_drew1 | refine below_set ?_ GE223.out) | exact HB.out)⟩
end Go.Proofs.Ytinlfoblpgpikaa.Pr
