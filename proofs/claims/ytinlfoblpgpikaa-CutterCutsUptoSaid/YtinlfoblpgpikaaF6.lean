import Derived.Test.YtinlfoblpgpikaaE0
namespace Go.Proofs.Ytinlfoblpgpikaa.Pr
open Go.RowKit Go.Proofs.YtinlfoblpgpikaaW.PrintWords Go.Proofs.YtinlfoblpgpikaaW.PrintLast Go.Proofs.YtinlfoblpgpikaaW.PrintMore
attribute [local go_sem] max2_int min2_int max_two min_two max_three min_three max_four min_four   -- for this text's walks alone
set_option linter.unusedVariables false
set_option linter.unusedSimpArgs false

/-! ### sapperlaw17_spoil: function 18 -/
mutual
def sapperlaw17_spoil.l0 : Nat → Int → Int → List (S82) → List Int → List Int → Option (Int)
  | 0, _, _, _, _, _ => none
  | k + 1, x11, x12, x278000, x278001, x278002 => if x12 < x11 then (if 0 ≤ x12 then (if x12 < (x278000.length : Int) then (sapperlaw17_spoil.l0 k x11 (wrap64 (x12 + 1)) (x278000.set (x12 : Int).toNat (⟨(-9), 0, 0⟩ : S82)) x278001 x278002) else (none)) else (none)) else (sapperlaw17_spoil.l1 k (x278001.length : Int) 0 x278000 x278001 x278002)
def sapperlaw17_spoil.l1 : Nat → Int → Int → List (S82) → List Int → List Int → Option (Int)
  | 0, _, _, _, _, _ => none
  | k + 1, x23, x24, x278000, x278001, x278002 => if x24 < x23 then (if 0 ≤ x24 then (if x24 < (x278001.length : Int) then (sapperlaw17_spoil.l1 k x23 (wrap64 (x24 + 1)) x278000 (x278001.set (x24 : Int).toNat 91) x278002) else (none)) else (none)) else (sapperlaw17_spoil.l2 k (x278002.length : Int) 0 x278000 x278001 x278002)
def sapperlaw17_spoil.l2 : Nat → Int → Int → List (S82) → List Int → List Int → Option (Int)
  | 0, _, _, _, _, _ => none
  | k + 1, x34, x35, x278000, x278001, x278002 => if x35 < x34 then (if 0 ≤ x35 then (if x35 < (x278002.length : Int) then (sapperlaw17_spoil.l2 k x34 (wrap64 (x35 + 1)) x278000 x278001 (x278002.set (x35 : Int).toNat 92)) else (none)) else (none)) else ((some (([(⟨0, 0, 0⟩ : S82), (⟨0, 0, 0⟩ : S82), (⟨0, 0, 0⟩ : S82)] : List (S82)) : List (S82))).bind fun y281 => (if x278000.length + y281.length < 5864062014805 then ((some (([1, 2, 3, 4, 5, 6, 7, 8, 9] : List Int) : List Int)).bind fun y287 => (if x278001.length + y287.length < 140737488355328 then ((some (([1, 2, 3, 4, 5, 6, 7, 8, 9] : List Int) : List Int)).bind fun y293 => (if x278002.length + y293.length < 140737488355328 then (some (wrap64 ((wrap64 (((x278000 ++ y281).length : Int) + ((x278001 ++ y287).length : Int))) + ((x278002 ++ y293).length : Int)))) else (none))) else (none))) else (none)))
end
def sapperlaw17_spoil.f (k : Nat) (l0_0 : List (S82)) (l0_1 : List Int) (l0_2 : List Int) : Option (Int) := sapperlaw17_spoil.l0 k (l0_0.length : Int) 0 l0_0 l0_1 l0_2
set_option maxHeartbeats 8000000 in
set_option maxRecDepth 100000 in
theorem sapperlaw17_spoil.calls (k : Nat) (P0_0_ : Nat → Prop) (u9000_ : Value) (l0_0 : List (S82)) (P0_1_ : Nat → Prop) (u9001_ : Value) (l0_1 : List Int) (P0_2_ : Nat → Prop) (u9002_ : Value) (l0_2 : List Int) (r : Int) (w0 w : World) (hB : Below w0.heap.size w0 w) (ho0_0 : Kd.R k82 82 w w0.heap.size P0_0_ u9000_ l0_0) (ho0_1 : Kd.R (Kd.int .u8) 5 w w0.heap.size P0_1_ u9001_ l0_1) (hp0_1_0_2 : ∀ k_, P0_1_ k_ → ¬ P0_2_ k_) (ho0_2 : Kd.R (Kd.int .u8) 5 w w0.heap.size P0_2_ u9002_ l0_2) (hp0_2_0_1 : ∀ k_, P0_2_ k_ → ¬ P0_1_ k_) (h : sapperlaw17_spoil.f k l0_0 l0_1 l0_2 = some r) :
    Calls Try.prog 18 #[.agg #[u9000_, u9001_, u9002_]] w fun e w' => e = .returned (.int .i64 r) ∧ Below w0.heap.size w0 w' ∧ Kept w w' (fun k_ => P0_0_ k_ ∨ P0_1_ k_ ∨ P0_2_ k_) := by
  have hu29 := Try.underlying29
  have hu82 := Try.underlying82
  have HO0_0 := Aside0.mk (show Kd.R k82 82 w w0.heap.size (fun k_ => ((P0_0_ k_ ∨ P0_1_ k_ ∨ P0_2_ k_) ∨ w.heap.size ≤ k_)) u9000_ l0_0 from Kd.R_mono ho0_0 (fun k_ hk => (.inl (.inl hk))))
  have HO0_1 := Aside0.mk (show Kd.R (Kd.int .u8) 5 w w0.heap.size (fun k_ => ((P0_0_ k_ ∨ P0_1_ k_ ∨ P0_2_ k_) ∨ w.heap.size ≤ k_) ∧ some k_ ≠ (u9002_ : Value).ownBlock) u9001_ l0_1 from Kd.R_mono ho0_1 (fun k_ hk => ⟨(.inl (.inr (.inl hk))), fun e_ => hp0_1_0_2 k_ hk (ho0_2.1 k_ e_.symm)⟩))
  have HO0_2 := Aside0.mk (show Kd.R (Kd.int .u8) 5 w w0.heap.size (fun k_ => ((P0_0_ k_ ∨ P0_1_ k_ ∨ P0_2_ k_) ∨ w.heap.size ≤ k_) ∧ some k_ ≠ (u9001_ : Value).ownBlock) u9002_ l0_2 from Kd.R_mono ho0_2 (fun k_ hk => ⟨(.inl (.inr (.inr hk))), fun e_ => hp0_2_0_1 k_ hk (ho0_1.1 k_ e_.symm)⟩))
  have HK := Aside0.mk (Kept.refl w (fun k_ => P0_0_ k_ ∨ P0_1_ k_ ∨ P0_2_ k_))
  have HW0 := Aside0.mk hB.size
  have HB := Aside0.mk hB
  clear hB
  have H : (sapperlaw17_spoil.l0 k (l0_0.length : Int) 0 l0_0 l0_1 l0_2) = some r := h
  clear h
  have H' := Aside0.mk H
  clear H
  obtain ⟨Ao2, co2, eo2⟩ := Kd.R_slice HO0_0.out
  subst eo2
  obtain ⟨Ao3, co3, eo3⟩ := Kd.R_slice HO0_1.out
  subst eo3
  obtain ⟨Ao4, co4, eo4⟩ := Kd.R_slice HO0_2.out
  subst eo4
  go_enter Try.func18, Try.ntmps18
  go_wp2_with (first | ((with_reducible refine gate_dst (N := 1) rfl ?_); refine box_event ?hg (N := 1) ?hd (cs := #[.slice Ao2 l0_0.length co2, .slice Ao3 l0_1.length co3, .slice Ao4 l0_2.length co4]) (t := 29) ?hr ?_; (case hd => rfl); (case hg => rfl); (case hr => first | (go_simp; done) | (go_simp; rfl)); intro gb277 hg w5 hbox hb; have n0_ := Aside0.mk (Kd.R_below (by (with_reducible repeat (first | apply Kd.R_alloc | apply Kd.R_drewN | apply Kd.R_drew)); exact HO0_0.out) hb); have n1_ := Aside0.mk (Kd.R_below (by (with_reducible repeat (first | apply Kd.R_alloc | apply Kd.R_drewN | apply Kd.R_drew)); exact HO0_1.out) hb); have n2_ := Aside0.mk (Kd.R_below (by (with_reducible repeat (first | apply Kd.R_alloc | apply Kd.R_drewN | apply Kd.R_drew)); exact HO0_2.out) hb); have n3_ := Aside0.mk (Kept.below (S := (fun k_ => P0_0_ k_ ∨ P0_1_ k_ ∨ P0_2_ k_)) (by repeat (first | (with_reducible first | exact HK.out | apply Kept.alloc | apply Kept.drewN | apply Kept.drew) | exact HK.out)) hb); have n4_ := Aside0.mk (below_step (by repeat (first | (with_reducible first | exact HB.out | apply below_alloc | apply pw_below_drewN | apply below_drew1) | exact HB.out)) hb); have n5_ := Aside0.mk (hbox); have n6_ := Aside0.mk ((by rw [hg]; exact (by first | exact HK.out.1 | exact (show Kept w _ (fun k_ => P0_0_ k_ ∨ P0_1_ k_ ∨ P0_2_ k_) from by repeat (first | (with_reducible first | exact HK.out | apply Kept.alloc | apply Kept.drewN | apply Kept.drew) | exact HK.out)).1) : w.heap.size ≤ gb277)); have n7_ := Aside0.mk ((by rw [hg]; exact (below_size (by repeat (first | (with_reducible first | exact HB.out | apply below_alloc | apply pw_below_drewN | apply below_drew1) | exact HB.out))) : w0.heap.size ≤ gb277)); clear HO0_0; clear HO0_1; clear HO0_2; clear HK; clear HB; have HO0_0 := n0_; have HO0_1 := n1_; have HO0_2 := n2_; have HK := n3_; have HB := n4_; have BK277 := n5_; have GW277 := n6_; have GE277 := n7_; clear n0_ n1_ n2_ n3_ n4_ n5_ n6_ n7_; clear hb hbox hg; have hcz6_0 : w5.cell? ⟨gb277, 0, none⟩ = some (.slice Ao2 l0_0.length co2) := (blk_cell BK277.out 0).trans rfl; have hcz6_1 : w5.cell? ⟨gb277, 1, none⟩ = some (.slice Ao3 l0_1.length co3) := (blk_cell BK277.out 1).trans rfl; have hcz6_2 : w5.cell? ⟨gb277, 2, none⟩ = some (.slice Ao4 l0_2.length co4) := (blk_cell BK277.out 2).trans rfl; have hfz6_0 := blk_frozen BK277.out 0; have hfz6_1 := blk_frozen BK277.out 1; have hfz6_2 := blk_frozen BK277.out 2))
  go_loopg [12] k (fun kq v12 w' => ∃ (x12_1 : Int) (x278000_1 : List (S82)) (u278000 : Value), v12 = .int .i64 x12_1 ∧ Aside0 (sapperlaw17_spoil.l0 kq (l0_0.length : Int) x12_1 x278000_1 l0_1 l0_2 = some r) ∧ Aside0 (kq ≤ k) ∧ Aside0 (Kd.R k82 82 w' w0.heap.size (fun k_ => ((P0_0_ k_ ∨ P0_1_ k_ ∨ P0_2_ k_) ∨ w.heap.size ≤ k_)) u278000 x278000_1) ∧ Aside0 (Kd.R (Kd.int .u8) 5 w' w0.heap.size (fun k_ => ((P0_0_ k_ ∨ P0_1_ k_ ∨ P0_2_ k_) ∨ w.heap.size ≤ k_) ∧ some k_ ≠ ((.slice Ao4 l0_2.length co4) : Value).ownBlock) (.slice Ao3 l0_1.length co3) l0_1) ∧ Aside0 (Kd.R (Kd.int .u8) 5 w' w0.heap.size (fun k_ => ((P0_0_ k_ ∨ P0_1_ k_ ∨ P0_2_ k_) ∨ w.heap.size ≤ k_) ∧ some k_ ≠ ((.slice Ao3 l0_1.length co3) : Value).ownBlock) (.slice Ao4 l0_2.length co4) l0_2) ∧ Aside0 (w'.heap[gb277]? = some (.cells #[u278000, (.slice Ao3 l0_1.length co3), (.slice Ao4 l0_2.length co4)] 29 (0, 0))) ∧ Aside0 (Kept w w' (fun k_ => P0_0_ k_ ∨ P0_1_ k_ ∨ P0_2_ k_)) ∧ Aside0 (Below w0.heap.size w0 w'))
  case atStart => exact ⟨(0), (l0_0), (.slice Ao2 l0_0.length co2), (by first | rfl | (simp; done) | (simp [*]; done)), H', ⟨Nat.le_refl _⟩, ⟨by (with_reducible repeat (first | apply Kd.R_alloc | apply Kd.R_drewN | apply Kd.R_drew)); exact HO0_0.out⟩, ⟨by (with_reducible repeat (first | apply Kd.R_alloc | apply Kd.R_drewN | apply Kd.R_drew)); exact HO0_1.out⟩, ⟨by (with_reducible repeat (first | apply Kd.R_alloc | apply Kd.R_drewN | apply Kd.R_drew)); exact HO0_2.out⟩, ⟨by (with_reducible repeat (first | refine blk_drewN ?_ _ | refine blk_drew ?_ | refine blk_alloc ?_ _)); exact BK277.out⟩, ⟨by repeat (first | (with_reducible first | exact HK.out | apply Kept.alloc | apply Kept.drewN | apply Kept.drew | refine Kept.setCell ?_ (.inr GW277.out) _) | exact HK.out)⟩, ⟨by repeat (first | (with_reducible first | exact HB.out | apply below_alloc | apply pw_below_drewN | apply below_drew1 | refine below_set ?_ GE277.out) | exact HB.out)⟩⟩
  case round =>
    clear H'
    try clear c1
    try clear p2
    try clear hcz6_0
    try clear hcz6_1
    try clear hcz6_2
    try clear hfz6_0
    try clear hfz6_1
    try clear hfz6_2
    obtain ⟨x12_1, x278000_1, u278000, rfl, HA, HK1, HO_278000, HO_278001, HO_278002, BK277, HK, HB⟩ := hrel
    cases gk with
    | zero => exact absurd HA.out (by simp [sapperlaw17_spoil.l0])
    | succ k1 =>
      have H := HA.out
      clear HA
      simp only [sapperlaw17_spoil.l0] at H
      by_cases c7 : x12_1 < (l0_0.length : Int)
      · rw [if_pos c7] at H
        have c7b0 : decide (x12_1 < (l0_0.length : Int)) = true := decide_eq_true c7
        clear c7
        by_cases c8 : 0 ≤ x12_1
        · rw [if_pos c8] at H
          have c8b0 : decide (0 ≤ x12_1) = true := decide_eq_true c8
          clear c8
          by_cases c9 : x12_1 < (x278000_1.length : Int)
          · rw [if_pos c9] at H
            have c9b0 : decide (x12_1 < (x278000_1.length : Int)) = true := decide_eq_true c9
            clear c9
            obtain ⟨y278, hy278⟩ : ∃ y_ : List (S82), y_ = (x278000_1.set (x12_1 : Int).toNat (⟨(-9), 0, 0⟩ : S82)) := ⟨_, rfl⟩
            replace H : (sapperlaw17_spoil.l0 k1 (l0_0.length : Int) (wrap64 (x12_1 + 1)) y278 l0_1 l0_2) = some r := by first | (rw [hy278]; with_reducible exact H) | (have H2_ := (Option.bind_some _ _).symm.trans H; rw [hy278]; with_reducible exact H2_) | (have H2_ := (Option.bind_some _ _).symm.trans H; with_reducible exact H2_) | with_reducible exact H | (rw [hy278]; exact H) | exact H
            have Ny278 := Aside0.mk hy278
            clear hy278
            have H' := Aside0.mk H
            clear H
            have hcz11_0 : wr.cell? ⟨gb277, 0, none⟩ = some (u278000) := (blk_cell BK277.out 0).trans rfl
            have hcz11_1 : wr.cell? ⟨gb277, 1, none⟩ = some (.slice Ao3 l0_1.length co3) := (blk_cell BK277.out 1).trans rfl
            have hcz11_2 : wr.cell? ⟨gb277, 2, none⟩ = some (.slice Ao4 l0_2.length co4) := (blk_cell BK277.out 2).trans rfl
            have hfz11_0 := blk_frozen BK277.out 0
            have hfz11_1 := blk_frozen BK277.out 1
            have hfz11_2 := blk_frozen BK277.out 2
            have p10 : 0 ≤ (x12_1 : Int) := of_decide_eq_true (by first | (with_reducible assumption) | assumption)
            have q10 : (x12_1 : Int) < ((x278000_1.length : Int) : Int) := of_decide_eq_true (by first | (with_reducible assumption) | assumption)
            obtain ⟨go10, co10, eo10, gb10, gl10, cl10, HG10⟩ := Kd.R_form HO_278000.out (by omega)
            (first | cases eo10 | (injection eo10 with ea_ en_ ec_; (first | subst ea_ | (injection ea_ with ea_; subst ea_)); subst ec_; clear en_))
            have GB10 := Aside0.mk gb10
            have GG10 := Aside0.mk HG10
            clear gb10 gl10 HG10
            have HMgo10 := Aside0.mk (show ((P0_0_ go10 ∨ P0_1_ go10 ∨ P0_2_ go10) ∨ w.heap.size ≤ go10) from (HO_278000.out.1 _ rfl))
            obtain ⟨ce10, hcl10, hM10, hcc10, hfr10⟩ := Kd.R_elem HO_278000.out z82 (x12_1 : Int) p10 q10
            obtain rfl := k82_openM hM10
            have hx10_0 : wr.cell? ⟨go10, (x12_1 : Int).toNat * 3, none⟩ = some (.int .i64 ((rd_T82 x278000_1 x12_1).f0)) := hcc10 0 _ rfl
            have hx10_1 : wr.cell? ⟨go10, (x12_1 : Int).toNat * 3 + 1, none⟩ = some (.int .i64 ((rd_T82 x278000_1 x12_1).f1)) := hcc10 1 _ rfl
            have hx10_2 : wr.cell? ⟨go10, (x12_1 : Int).toNat * 3 + 2, none⟩ = some (.int .i64 ((rd_T82 x278000_1 x12_1).f2)) := hcc10 2 _ rfl
            have hf10_0 : wr.frozen? ⟨go10, (x12_1 : Int).toNat * 3, none⟩ = false := hfr10 0
            have hf10_1 : wr.frozen? ⟨go10, (x12_1 : Int).toNat * 3 + 1, none⟩ = false := hfr10 1
            have hf10_2 : wr.frozen? ⟨go10, (x12_1 : Int).toNat * 3 + 2, none⟩ = false := hfr10 2
            clear hcl10 hcc10 hfr10 hM10
            replace p10 := eq_true p10
            replace q10 := eq_true q10
            have HX12 := Aside0.mk (show Kd.R k82 82 wr w0.heap.size (fun k_ => ((P0_0_ k_ ∨ P0_1_ k_ ∨ P0_2_ k_) ∨ w.heap.size ≤ k_)) (.slice (some ⟨go10, 0, none⟩) x278000_1.length co10) x278000_1 from (by (with_reducible repeat (first | apply Kd.R_alloc | apply Kd.R_drewN | apply Kd.R_drew)); exact HO_278000.out))
            obtain ⟨ce12, hcl12, hM12, hcc12, hfr12⟩ := Kd.R_elem HX12.out z82 (x12_1 : Int) (of_decide_eq_true (by first | (with_reducible assumption) | assumption)) (by have h_ : (x12_1 : Int) < ((x278000_1.length : Int) : Int) := of_decide_eq_true (by first | (with_reducible assumption) | assumption); first | exact h_ | (have e_ := (Kd.R_reads' HO_278000.out).1; omega) | simpa using h_)
            obtain rfl := k82_openM hM12
            have HP12 := Kd.R_seg HX12.out (x12_1 : Int) (of_decide_eq_true (by first | (with_reducible assumption) | assumption)) (by have h_ : (x12_1 : Int) < ((x278000_1.length : Int) : Int) := of_decide_eq_true (by first | (with_reducible assumption) | assumption); first | exact h_ | (have e_ := (Kd.R_reads' HO_278000.out).1; omega) | simpa using h_) (seg := [.int .i64 (-9), .int .i64 0, .int .i64 0]) (j := 0) hcl12 hcc12 (show 3 ≤ 3 from by decide) (x' := (⟨(-9), 0, 0⟩ : S82)) (k82_mkM _ _ _ (⟨(-9), 0, 0⟩ : S82) ) (fun _ hk => hk)
            have hx12_0 := hcc12 0 _ rfl
            (try simp only [show (k82).sz = 3 from rfl, Nat.mul_one, Nat.add_zero] at hx12_0)
            have hf12_0 := hfr12 0
            (try simp only [show (k82).sz = 3 from rfl, Nat.mul_one, Nat.add_zero] at hf12_0)
            have hx12_1 := hcc12 1 _ rfl
            (try simp only [show (k82).sz = 3 from rfl, Nat.mul_one, Nat.add_zero] at hx12_1)
            have hf12_1 := hfr12 1
            (try simp only [show (k82).sz = 3 from rfl, Nat.mul_one, Nat.add_zero] at hf12_1)
            have hx12_2 := hcc12 2 _ rfl
            (try simp only [show (k82).sz = 3 from rfl, Nat.mul_one, Nat.add_zero] at hx12_2)
            have hf12_2 := hfr12 2
            (try simp only [show (k82).sz = 3 from rfl, Nat.mul_one, Nat.add_zero] at hf12_2)
            clear hcl12 hcc12 hfr12 hM12
            go_wp2_with (first | ((with_reducible refine gate_store (t := 82) (p := 19) rfl ?_); refine store_event (t := 82) (p := 19) (v := ?vo_w13) (w1 := (((wr.setCell ⟨go10, (x12_1 : Int).toNat * 3, none⟩ (.int .i64 (-9))).setCell ⟨go10, (x12_1 : Int).toNat * 3 + 1, none⟩ (.int .i64 0)).setCell ⟨go10, (x12_1 : Int).toNat * 3 + 2, none⟩ (.int .i64 0))) ?hg ?ho ?hn ?hr ?_; (case ho => rfl); (case hg => rfl); (case hn => rfl); (case hr => first | (go_simp; done) | (go_simp; rfl)); intro w13 hw; have hg : wr.grownBy w13 (some go10) := (by rw [hw]; exact HP12.2); have hp_ : Kd.R k82 82 w13 w0.heap.size (fun k_ => ((P0_0_ k_ ∨ P0_1_ k_ ∨ P0_2_ k_) ∨ w.heap.size ≤ k_)) (.slice (some ⟨go10, 0, none⟩) x278000_1.length co10) y278 := (by rw [hw, Ny278.out]; exact HP12.1); clear HP12; have n0_ := Aside0.mk (hp_); have n1_ := Aside0.mk (Kd.R_over' (v := (.slice (some ⟨go10, 0, none⟩) x278000_1.length co10)) (by (with_reducible repeat (first | apply Kd.R_alloc | apply Kd.R_drewN | apply Kd.R_drew)); exact HO_278001.out) (Kd.R_typed HO_278000.out) (by decide) hg); have n2_ := Aside0.mk (Kd.R_over' (v := (.slice (some ⟨go10, 0, none⟩) x278000_1.length co10)) (by (with_reducible repeat (first | apply Kd.R_alloc | apply Kd.R_drewN | apply Kd.R_drew)); exact HO_278002.out) (Kd.R_typed HO_278000.out) (by decide) hg); have n3_ := Aside0.mk (blk_grown (g := gb277) (o := .cells #[.slice (some ⟨go10, 0, none⟩) x278000_1.length co10, .slice Ao3 l0_1.length co3, .slice Ao4 l0_2.length co4] 29 (0, 0)) (by (with_reducible repeat (first | refine blk_drewN ?_ _ | refine blk_drew ?_ | refine blk_alloc ?_ _)); exact BK277.out) hg (Kd.R_ne HO_278000.out BK277.out (by decide))); have n4_ := Aside0.mk ((by rw [hw]; exact below_set (below_set (below_set (HB.out) GB10.out) GB10.out) GB10.out : Below w0.heap.size w0 w13)); have n5_ := Aside0.mk (Kept.of_grown (S := (fun k_ => P0_0_ k_ ∨ P0_1_ k_ ∨ P0_2_ k_)) hg (by repeat (first | (with_reducible first | exact HK.out | apply Kept.alloc | apply Kept.drewN | apply Kept.drew | refine Kept.setCell ?_ (.inr GW277.out) _) | exact HK.out)) (fun k_ e_ => (HO_278000.out.1 k_ e_))); clear HO_278000; clear HO_278001; clear HO_278002; clear BK277; clear HB; clear HK; have HO_278000 := n0_; have HO_278001 := n1_; have HO_278002 := n2_; have BK277 := n3_; have HB := n4_; have HK := n5_; clear n0_ n1_ n2_ n3_ n4_ n5_; clear hg hw hp_))
            go_roundg k1
            case measure => have := HK1.out; omega
            case rel => exact ⟨(wrap64 (x12_1 + 1)), (y278), (.slice (some ⟨go10, 0, none⟩) x278000_1.length co10), (by first | rfl | (simp; done) | (simp [*]; done)), H', ⟨by have := HK1.out; omega⟩, ⟨by (with_reducible repeat (first | apply Kd.R_alloc | apply Kd.R_drewN | apply Kd.R_drew)); exact HO_278000.out⟩, ⟨by (with_reducible repeat (first | apply Kd.R_alloc | apply Kd.R_drewN | apply Kd.R_drew)); exact HO_278001.out⟩, ⟨by (with_reducible repeat (first | apply Kd.R_alloc | apply Kd.R_drewN | apply Kd.R_drew)); exact HO_278002.out⟩, ⟨by (with_reducible repeat (first | refine blk_drewN ?_ _ | refine blk_drew ?_ | refine blk_alloc ?_ _)); exact BK277.out⟩, ⟨by repeat (first | (with_reducible first | exact HK.out | apply Kept.alloc | apply Kept.drewN | apply Kept.drew | refine Kept.setCell ?_ (.inr GW277.out) _) | exact HK.out)⟩, ⟨by repeat (first | (with_reducible first | exact HB.out | apply below_alloc | apply pw_below_drewN | apply below_drew1 | refine below_set ?_ GE277.out) | exact HB.out)⟩⟩
          · rw [if_neg c9] at H
            exact absurd H (by simp)
        · rw [if_neg c8] at H
          exact absurd H (by simp)
      · rw [if_neg c7] at H
        have c7b0 : decide (x12_1 < (l0_0.length : Int)) = false := decide_eq_false c7
        clear c7
        have H' := Aside0.mk H
        clear H
        have hcz14_0 : wr.cell? ⟨gb277, 0, none⟩ = some (u278000) := (blk_cell BK277.out 0).trans rfl
        have hcz14_1 : wr.cell? ⟨gb277, 1, none⟩ = some (.slice Ao3 l0_1.length co3) := (blk_cell BK277.out 1).trans rfl
        have hcz14_2 : wr.cell? ⟨gb277, 2, none⟩ = some (.slice Ao4 l0_2.length co4) := (blk_cell BK277.out 2).trans rfl
        have hfz14_0 := blk_frozen BK277.out 0
        have hfz14_1 := blk_frozen BK277.out 1
        have hfz14_2 := blk_frozen BK277.out 2
        go_wp2
        go_loopg [24] k1 (fun kq v24 w' => ∃ (x24_2 : Int) (x278001_2 : List Int) (x278002_2 : List Int) (u278001 : Value) (u278002 : Value), v24 = .int .i64 x24_2 ∧ Aside0 (sapperlaw17_spoil.l1 kq (l0_1.length : Int) x24_2 x278000_1 x278001_2 x278002_2 = some r) ∧ Aside0 (kq ≤ k1) ∧ Aside0 (Kd.R k82 82 w' w0.heap.size (fun k_ => ((P0_0_ k_ ∨ P0_1_ k_ ∨ P0_2_ k_) ∨ w.heap.size ≤ k_)) u278000 x278000_1) ∧ Aside0 (Kd.R (Kd.int .u8) 5 w' w0.heap.size (fun k_ => ((P0_0_ k_ ∨ P0_1_ k_ ∨ P0_2_ k_) ∨ w.heap.size ≤ k_) ∧ some k_ ≠ (u278002 : Value).ownBlock) u278001 x278001_2) ∧ Aside0 (Kd.R (Kd.int .u8) 5 w' w0.heap.size (fun k_ => ((P0_0_ k_ ∨ P0_1_ k_ ∨ P0_2_ k_) ∨ w.heap.size ≤ k_) ∧ some k_ ≠ (u278001 : Value).ownBlock) u278002 x278002_2) ∧ Aside0 (w'.heap[gb277]? = some (.cells #[u278000, u278001, u278002] 29 (0, 0))) ∧ Aside0 (Kept w w' (fun k_ => P0_0_ k_ ∨ P0_1_ k_ ∨ P0_2_ k_)) ∧ Aside0 (Below w0.heap.size w0 w'))
        case atStart => exact ⟨(0), (l0_1), (l0_2), (.slice Ao3 l0_1.length co3), (.slice Ao4 l0_2.length co4), (by first | rfl | (simp; done) | (simp [*]; done)), H', ⟨Nat.le_refl _⟩, ⟨by (with_reducible repeat (first | apply Kd.R_alloc | apply Kd.R_drewN | apply Kd.R_drew)); exact HO_278000.out⟩, ⟨by (with_reducible repeat (first | apply Kd.R_alloc | apply Kd.R_drewN | apply Kd.R_drew)); exact HO_278001.out⟩, ⟨by (with_reducible repeat (first | apply Kd.R_alloc | apply Kd.R_drewN | apply Kd.R_drew)); exact HO_278002.out⟩, ⟨by (with_reducible repeat (first | refine blk_drewN ?_ _ | refine blk_drew ?_ | refine blk_alloc ?_ _)); exact BK277.out⟩, ⟨by repeat (first | (with_reducible first | exact HK.out | apply Kept.alloc | apply Kept.drewN | apply Kept.drew | refine Kept.setCell ?_ (.inr GW277.out) _) | exact HK.out)⟩, ⟨by repeat (first | (with_reducible first | exact HB.out | apply below_alloc | apply pw_below_drewN | apply below_drew1 | refine below_set ?_ GE277.out) | exact HB.out)⟩⟩
        case round =>
          clear H'
          try clear c1
          try clear p1
          try clear q1
          try clear hx1
          try clear hf1
          try clear p2
          try clear p6
          try clear c7
          try clear c7b0
          try clear c8
          try clear c8b0
          try clear c9
          try clear c9b0
          try clear c10
          try clear p10
          try clear q10
          try clear hx10
          try clear hf10
          try clear c12
          try clear hx12
          try clear hf12
          try clear hcz11_0
          try clear hcz11_1
          try clear hcz11_2
          try clear hcz14_0
          try clear hcz14_1
          try clear hcz14_2
          try clear hcz6_0
          try clear hcz6_1
          try clear hcz6_2
          try clear hfz11_0
          try clear hfz11_1
          try clear hfz11_2
          try clear hfz14_0
          try clear hfz14_1
          try clear hfz14_2
          try clear hfz6_0
          try clear hfz6_1
          try clear hfz6_2
          try clear hx10_0
          try clear hx10_1
          try clear hx10_2
          try clear hx12_0
          try clear hx12_1
          try clear hx12_2
          try clear p10
          try clear p2
          try clear q10
          obtain ⟨x24_2, x278001_2, x278002_2, u278001, u278002, rfl, HA, HK2, HO_278000, HO_278001, HO_278002, BK277, HK, HB⟩ := hrel
          cases gk with
          | zero => exact absurd HA.out (by simp [sapperlaw17_spoil.l1])
          | succ k2 =>
            have H := HA.out
            clear HA
            simp only [sapperlaw17_spoil.l1] at H
            by_cases c15 : x24_2 < (l0_1.length : Int)
            · rw [if_pos c15] at H
              have c15b0 : decide (x24_2 < (l0_1.length : Int)) = true := decide_eq_true c15
              clear c15
              by_cases c16 : 0 ≤ x24_2
              · rw [if_pos c16] at H
                have c16b0 : decide (0 ≤ x24_2) = true := decide_eq_true c16
                clear c16
                by_cases c17 : x24_2 < (x278001_2.length : Int)
                · rw [if_pos c17] at H
                  have c17b0 : decide (x24_2 < (x278001_2.length : Int)) = true := decide_eq_true c17
                  clear c17
                  obtain ⟨y279, hy279⟩ : ∃ y_ : List Int, y_ = (x278001_2.set (x24_2 : Int).toNat 91) := ⟨_, rfl⟩
                  replace H : (sapperlaw17_spoil.l1 k2 (l0_1.length : Int) (wrap64 (x24_2 + 1)) x278000_1 y279 x278002_2) = some r := by first | (rw [hy279]; with_reducible exact H) | (have H2_ := (Option.bind_some _ _).symm.trans H; rw [hy279]; with_reducible exact H2_) | (have H2_ := (Option.bind_some _ _).symm.trans H; with_reducible exact H2_) | with_reducible exact H | (rw [hy279]; exact H) | exact H
                  have Ny279 := Aside0.mk hy279
                  clear hy279
                  have H' := Aside0.mk H
                  clear H
                  have hcz19_0 : wr.cell? ⟨gb277, 0, none⟩ = some (u278000) := (blk_cell BK277.out 0).trans rfl
                  have hcz19_1 : wr.cell? ⟨gb277, 1, none⟩ = some (u278001) := (blk_cell BK277.out 1).trans rfl
                  have hcz19_2 : wr.cell? ⟨gb277, 2, none⟩ = some (u278002) := (blk_cell BK277.out 2).trans rfl
                  have hfz19_0 := blk_frozen BK277.out 0
                  have hfz19_1 := blk_frozen BK277.out 1
                  have hfz19_2 := blk_frozen BK277.out 2
                  have p18 : 0 ≤ (x24_2 : Int) := of_decide_eq_true (by first | (with_reducible assumption) | assumption)
                  have q18 : (x24_2 : Int) < ((x278001_2.length : Int) : Int) := of_decide_eq_true (by first | (with_reducible assumption) | assumption)
                  obtain ⟨go18, co18, eo18, gb18, gl18, cl18, HG18⟩ := Kd.R_form HO_278001.out (by omega)
                  (first | cases eo18 | (injection eo18 with ea_ en_ ec_; (first | subst ea_ | (injection ea_ with ea_; subst ea_)); subst ec_; clear en_))
                  have GB18 := Aside0.mk gb18
                  have GG18 := Aside0.mk HG18
                  clear gb18 gl18 HG18
                  have HMgo18 := Aside0.mk (show ((P0_0_ go18 ∨ P0_1_ go18 ∨ P0_2_ go18) ∨ w.heap.size ≤ go18) from (HO_278001.out.1 _ rfl).1)
                  obtain ⟨hx18_0, hf18_0⟩ := Kd.R_celln 0 HO_278001.out (x24_2 : Int) p18 q18
                  replace p18 := eq_true p18
                  replace q18 := eq_true q18
                  have HP20 := Kd.R_putg HO_278001.out (x24_2 : Int) 91
                  go_wp2_with (first | ((with_reducible refine gate_store (t := 5) (p := 30) rfl ?_); refine store_event (t := 5) (p := 30) (v := ?vo_w21) (w1 := (wr.setCell ⟨go18, (x24_2 : Int).toNat, none⟩ (.int .u8 91))) ?hg ?ho ?hn ?hr ?_; (case ho => rfl); (case hg => rfl); (case hn => rfl); (case hr => first | (go_simp; done) | (go_simp; rfl)); intro w21 hw; have hg : wr.grownBy w21 (some go18) := (by rw [hw]; exact HP20.2); have hp_ : Kd.R (Kd.int .u8) 5 w21 w0.heap.size (fun k_ => ((P0_0_ k_ ∨ P0_1_ k_ ∨ P0_2_ k_) ∨ w.heap.size ≤ k_) ∧ some k_ ≠ (u278002 : Value).ownBlock) (.slice (some ⟨go18, 0, none⟩) x278001_2.length co18) y279 := (by rw [hw, Ny279.out]; exact HP20.1); clear HP20; have n0_ := Aside0.mk (Kd.R_over' (v := (.slice (some ⟨go18, 0, none⟩) x278001_2.length co18)) (by (with_reducible repeat (first | apply Kd.R_alloc | apply Kd.R_drewN | apply Kd.R_drew)); exact HO_278000.out) (Kd.R_typed HO_278001.out) (by decide) hg); have n1_ := Aside0.mk (hp_); have n2_ := Aside0.mk (Kd.R_after (v := (.slice (some ⟨go18, 0, none⟩) x278001_2.length co18)) (v1 := (.slice (some ⟨go18, 0, none⟩) x278001_2.length co18)) (ok := (fun k_ => ((P0_0_ k_ ∨ P0_1_ k_ ∨ P0_2_ k_) ∨ w.heap.size ≤ k_))) (by (with_reducible repeat (first | apply Kd.R_alloc | apply Kd.R_drewN | apply Kd.R_drew)); exact HO_278002.out) hg (.inl rfl)); have n3_ := Aside0.mk (blk_grown (g := gb277) (o := .cells #[u278000, .slice (some ⟨go18, 0, none⟩) x278001_2.length co18, u278002] 29 (0, 0)) (by (with_reducible repeat (first | refine blk_drewN ?_ _ | refine blk_drew ?_ | refine blk_alloc ?_ _)); exact BK277.out) hg (Kd.R_ne HO_278001.out BK277.out (by decide))); have n4_ := Aside0.mk ((by rw [hw]; exact below_set (HB.out) GB18.out : Below w0.heap.size w0 w21)); have n5_ := Aside0.mk (Kept.of_grown (S := (fun k_ => P0_0_ k_ ∨ P0_1_ k_ ∨ P0_2_ k_)) hg (by repeat (first | (with_reducible first | exact HK.out | apply Kept.alloc | apply Kept.drewN | apply Kept.drew | refine Kept.setCell ?_ (.inr GW277.out) _) | exact HK.out)) (fun k_ e_ => (HO_278001.out.1 k_ e_).1)); clear HO_278000; clear HO_278001; clear HO_278002; clear BK277; clear HB; clear HK; have HO_278000 := n0_; have HO_278001 := n1_; have HO_278002 := n2_; have BK277 := n3_; have HB := n4_; have HK := n5_; clear n0_ n1_ n2_ n3_ n4_ n5_; clear hg hw hp_))
                  go_roundg k2
                  case measure => have := HK1.out; have := HK2.out; omega
                  case rel => exact ⟨(wrap64 (x24_2 + 1)), (y279), (x278002_2), (.slice (some ⟨go18, 0, none⟩) x278001_2.length co18), (u278002), (by first | rfl | (simp; done) | (simp [*]; done)), H', ⟨by have := HK1.out; have := HK2.out; omega⟩, ⟨by (with_reducible repeat (first | apply Kd.R_alloc | apply Kd.R_drewN | apply Kd.R_drew)); exact HO_278000.out⟩, ⟨by (with_reducible repeat (first | apply Kd.R_alloc | apply Kd.R_drewN | apply Kd.R_drew)); exact HO_278001.out⟩, ⟨by (with_reducible repeat (first | apply Kd.R_alloc | apply Kd.R_drewN | apply Kd.R_drew)); exact HO_278002.out⟩, ⟨by (with_reducible repeat (first | refine blk_drewN ?_ _ | refine blk_drew ?_ | refine blk_alloc ?_ _)); exact BK277.out⟩, ⟨by repeat (first | (with_reducible first | exact HK.out | apply Kept.alloc | apply Kept.drewN | apply Kept.drew | refine Kept.setCell ?_ (.inr GW277.out) _) | exact HK.out)⟩, ⟨by repeat (first | (with_reducible first | exact HB.out | apply below_alloc | apply pw_below_drewN | apply below_drew1 | refine below_set ?_ GE277.out) | exact HB.out)⟩⟩
                · rw [if_neg c17] at H
                  exact absurd H (by simp)
              · rw [if_neg c16] at H
                exact absurd H (by simp)
            · rw [if_neg c15] at H
              have c15b0 : decide (x24_2 < (l0_1.length : Int)) = false := decide_eq_false c15
              clear c15
              have H' := Aside0.mk H
              clear H
              have hcz22_0 : wr.cell? ⟨gb277, 0, none⟩ = some (u278000) := (blk_cell BK277.out 0).trans rfl
              have hcz22_1 : wr.cell? ⟨gb277, 1, none⟩ = some (u278001) := (blk_cell BK277.out 1).trans rfl
              have hcz22_2 : wr.cell? ⟨gb277, 2, none⟩ = some (u278002) := (blk_cell BK277.out 2).trans rfl
              have hfz22_0 := blk_frozen BK277.out 0
              have hfz22_1 := blk_frozen BK277.out 1
              have hfz22_2 := blk_frozen BK277.out 2
              obtain ⟨Ao23, co23, eo23⟩ := Kd.R_slice HO_278002.out
              subst eo23
              go_wp2
              go_loopg [35] k2 (fun kq v35 w' => ∃ (x35_3 : Int) (x278001_3 : List Int) (x278002_3 : List Int) (u278001 : Value) (u278002 : Value), v35 = .int .i64 x35_3 ∧ Aside0 (sapperlaw17_spoil.l2 kq (x278002_2.length : Int) x35_3 x278000_1 x278001_3 x278002_3 = some r) ∧ Aside0 (kq ≤ k2) ∧ Aside0 (Kd.R k82 82 w' w0.heap.size (fun k_ => ((P0_0_ k_ ∨ P0_1_ k_ ∨ P0_2_ k_) ∨ w.heap.size ≤ k_)) u278000 x278000_1) ∧ Aside0 (Kd.R (Kd.int .u8) 5 w' w0.heap.size (fun k_ => ((P0_0_ k_ ∨ P0_1_ k_ ∨ P0_2_ k_) ∨ w.heap.size ≤ k_) ∧ some k_ ≠ (u278002 : Value).ownBlock) u278001 x278001_3) ∧ Aside0 (Kd.R (Kd.int .u8) 5 w' w0.heap.size (fun k_ => ((P0_0_ k_ ∨ P0_1_ k_ ∨ P0_2_ k_) ∨ w.heap.size ≤ k_) ∧ some k_ ≠ (u278001 : Value).ownBlock) u278002 x278002_3) ∧ Aside0 (w'.heap[gb277]? = some (.cells #[u278000, u278001, u278002] 29 (0, 0))) ∧ Aside0 (Kept w w' (fun k_ => P0_0_ k_ ∨ P0_1_ k_ ∨ P0_2_ k_)) ∧ Aside0 (Below w0.heap.size w0 w'))
              case atStart => exact ⟨(0), (x278001_2), (x278002_2), (u278001), (.slice Ao23 x278002_2.length co23), (by first | rfl | (simp; done) | (simp [*]; done)), H', ⟨Nat.le_refl _⟩, ⟨by (with_reducible repeat (first | apply Kd.R_alloc | apply Kd.R_drewN | apply Kd.R_drew)); exact HO_278000.out⟩, ⟨by (with_reducible repeat (first | apply Kd.R_alloc | apply Kd.R_drewN | apply Kd.R_drew)); exact HO_278001.out⟩, ⟨by (with_reducible repeat (first | apply Kd.R_alloc | apply Kd.R_drewN | apply Kd.R_drew)); exact HO_278002.out⟩, ⟨by (with_reducible repeat (first | refine blk_drewN ?_ _ | refine blk_drew ?_ | refine blk_alloc ?_ _)); exact BK277.out⟩, ⟨by repeat (first | (with_reducible first | exact HK.out | apply Kept.alloc | apply Kept.drewN | apply Kept.drew | refine Kept.setCell ?_ (.inr GW277.out) _) | exact HK.out)⟩, ⟨by repeat (first | (with_reducible first | exact HB.out | apply below_alloc | apply pw_below_drewN | apply below_drew1 | refine below_set ?_ GE277.out) | exact HB.out)⟩⟩
              case round =>
                clear H'
                try clear c1
                try clear p1
                try clear q1
                try clear hx1
                try clear hf1
                try clear p2
                try clear p6
                try clear c7
                try clear c7b0
                try clear c8
                try clear c8b0
                try clear c9
                try clear c9b0
                try clear c10
                try clear p10
                try clear q10
                try clear hx10
                try clear hf10
                try clear c12
                try clear hx12
                try clear hf12
                try clear c15
                try clear c15b0
                try clear c16
                try clear c16b0
                try clear c17
                try clear c17b0
                try clear c18
                try clear p18
                try clear q18
                try clear hx18
                try clear hf18
                try clear hcz11_0
                try clear hcz11_1
                try clear hcz11_2
                try clear hcz14_0
                try clear hcz14_1
                try clear hcz14_2
                try clear hcz19_0
                try clear hcz19_1
                try clear hcz19_2
                try clear hcz22_0
                try clear hcz22_1
                try clear hcz22_2
                try clear hcz6_0
                try clear hcz6_1
                try clear hcz6_2
                try clear hfz11_0
                try clear hfz11_1
                try clear hfz11_2
                try clear hfz14_0
                try clear hfz14_1
                try clear hfz14_2
                try clear hfz19_0
                try clear hfz19_1
                try clear hfz19_2
                try clear hfz22_0
                try clear hfz22_1
                try clear hfz22_2
                try clear hfz6_0
                try clear hfz6_1
                try clear hfz6_2
                try clear hx10_0
                try clear hx10_1
                try clear hx10_2
                try clear hx12_0
                try clear hx12_1
                try clear hx12_2
                try clear hx18_0
                try clear p1
                try clear p10
                try clear p18
                try clear p2
                try clear p6
                try clear q1
                try clear q10
                try clear q18
                obtain ⟨x35_3, x278001_3, x278002_3, u278001, u278002, rfl, HA, HK3, HO_278000, HO_278001, HO_278002, BK277, HK, HB⟩ := hrel
                cases gk with
                | zero => exact absurd HA.out (by simp [sapperlaw17_spoil.l2])
                | succ k3 =>
                  have H := HA.out
                  clear HA
                  simp only [sapperlaw17_spoil.l2] at H
                  by_cases c24 : x35_3 < (x278002_2.length : Int)
                  · rw [if_pos c24] at H
                    have c24b0 : decide (x35_3 < (x278002_2.length : Int)) = true := decide_eq_true c24
                    clear c24
                    by_cases c25 : 0 ≤ x35_3
                    · rw [if_pos c25] at H
                      have c25b0 : decide (0 ≤ x35_3) = true := decide_eq_true c25
                      clear c25
                      by_cases c26 : x35_3 < (x278002_3.length : Int)
                      · rw [if_pos c26] at H
                        have c26b0 : decide (x35_3 < (x278002_3.length : Int)) = true := decide_eq_true c26
                        clear c26
                        obtain ⟨y280, hy280⟩ : ∃ y_ : List Int, y_ = (x278002_3.set (x35_3 : Int).toNat 92) := ⟨_, rfl⟩
                        replace H : (sapperlaw17_spoil.l2 k3 (x278002_2.length : Int) (wrap64 (x35_3 + 1)) x278000_1 x278001_3 y280) = some r := by first | (rw [hy280]; with_reducible exact H) | (have H2_ := (Option.bind_some _ _).symm.trans H; rw [hy280]; with_reducible exact H2_) | (have H2_ := (Option.bind_some _ _).symm.trans H; with_reducible exact H2_) | with_reducible exact H | (rw [hy280]; exact H) | exact H
                        have Ny280 := Aside0.mk hy280
                        clear hy280
                        have H' := Aside0.mk H
                        clear H
                        have hcz28_0 : wr.cell? ⟨gb277, 0, none⟩ = some (u278000) := (blk_cell BK277.out 0).trans rfl
                        have hcz28_1 : wr.cell? ⟨gb277, 1, none⟩ = some (u278001) := (blk_cell BK277.out 1).trans rfl
                        have hcz28_2 : wr.cell? ⟨gb277, 2, none⟩ = some (u278002) := (blk_cell BK277.out 2).trans rfl
                        have hfz28_0 := blk_frozen BK277.out 0
                        have hfz28_1 := blk_frozen BK277.out 1
                        have hfz28_2 := blk_frozen BK277.out 2
                        have p27 : 0 ≤ (x35_3 : Int) := of_decide_eq_true (by first | (with_reducible assumption) | assumption)
                        have q27 : (x35_3 : Int) < ((x278002_3.length : Int) : Int) := of_decide_eq_true (by first | (with_reducible assumption) | assumption)
                        obtain ⟨go27, co27, eo27, gb27, gl27, cl27, HG27⟩ := Kd.R_form HO_278002.out (by omega)
                        (first | cases eo27 | (injection eo27 with ea_ en_ ec_; (first | subst ea_ | (injection ea_ with ea_; subst ea_)); subst ec_; clear en_))
                        have GB27 := Aside0.mk gb27
                        have GG27 := Aside0.mk HG27
                        clear gb27 gl27 HG27
                        have HMgo27 := Aside0.mk (show ((P0_0_ go27 ∨ P0_1_ go27 ∨ P0_2_ go27) ∨ w.heap.size ≤ go27) from (HO_278002.out.1 _ rfl).1)
                        obtain ⟨hx27_0, hf27_0⟩ := Kd.R_celln 0 HO_278002.out (x35_3 : Int) p27 q27
                        replace p27 := eq_true p27
                        replace q27 := eq_true q27
                        have HP29 := Kd.R_putg HO_278002.out (x35_3 : Int) 92
                        go_wp2_with (first | ((with_reducible refine gate_store (t := 5) (p := 41) rfl ?_); refine store_event (t := 5) (p := 41) (v := ?vo_w30) (w1 := (wr.setCell ⟨go27, (x35_3 : Int).toNat, none⟩ (.int .u8 92))) ?hg ?ho ?hn ?hr ?_; (case ho => rfl); (case hg => rfl); (case hn => rfl); (case hr => first | (go_simp; done) | (go_simp; rfl)); intro w30 hw; have hg : wr.grownBy w30 (some go27) := (by rw [hw]; exact HP29.2); have hp_ : Kd.R (Kd.int .u8) 5 w30 w0.heap.size (fun k_ => ((P0_0_ k_ ∨ P0_1_ k_ ∨ P0_2_ k_) ∨ w.heap.size ≤ k_) ∧ some k_ ≠ (u278001 : Value).ownBlock) (.slice (some ⟨go27, 0, none⟩) x278002_3.length co27) y280 := (by rw [hw, Ny280.out]; exact HP29.1); clear HP29; have n0_ := Aside0.mk (Kd.R_over' (v := (.slice (some ⟨go27, 0, none⟩) x278002_3.length co27)) (by (with_reducible repeat (first | apply Kd.R_alloc | apply Kd.R_drewN | apply Kd.R_drew)); exact HO_278000.out) (Kd.R_typed HO_278002.out) (by decide) hg); have n1_ := Aside0.mk (Kd.R_after (v := (.slice (some ⟨go27, 0, none⟩) x278002_3.length co27)) (v1 := (.slice (some ⟨go27, 0, none⟩) x278002_3.length co27)) (ok := (fun k_ => ((P0_0_ k_ ∨ P0_1_ k_ ∨ P0_2_ k_) ∨ w.heap.size ≤ k_))) (by (with_reducible repeat (first | apply Kd.R_alloc | apply Kd.R_drewN | apply Kd.R_drew)); exact HO_278001.out) hg (.inl rfl)); have n2_ := Aside0.mk (hp_); have n3_ := Aside0.mk (blk_grown (g := gb277) (o := .cells #[u278000, u278001, .slice (some ⟨go27, 0, none⟩) x278002_3.length co27] 29 (0, 0)) (by (with_reducible repeat (first | refine blk_drewN ?_ _ | refine blk_drew ?_ | refine blk_alloc ?_ _)); exact BK277.out) hg (Kd.R_ne HO_278002.out BK277.out (by decide))); have n4_ := Aside0.mk ((by rw [hw]; exact below_set (HB.out) GB27.out : Below w0.heap.size w0 w30)); have n5_ := Aside0.mk (Kept.of_grown (S := (fun k_ => P0_0_ k_ ∨ P0_1_ k_ ∨ P0_2_ k_)) hg (by repeat (first | (with_reducible first | exact HK.out | apply Kept.alloc | apply Kept.drewN | apply Kept.drew | refine Kept.setCell ?_ (.inr GW277.out) _) | exact HK.out)) (fun k_ e_ => (HO_278002.out.1 k_ e_).1)); clear HO_278000; clear HO_278001; clear HO_278002; clear BK277; clear HB; clear HK; have HO_278000 := n0_; have HO_278001 := n1_; have HO_278002 := n2_; have BK277 := n3_; have HB := n4_; have HK := n5_; clear n0_ n1_ n2_ n3_ n4_ n5_; clear hg hw hp_))
                        go_roundg k3
                        case measure => have := HK1.out; have := HK2.out; have := HK3.out; omega
                        case rel => exact ⟨(wrap64 (x35_3 + 1)), (x278001_3), (y280), (u278001), (.slice (some ⟨go27, 0, none⟩) x278002_3.length co27), (by first | rfl | (simp; done) | (simp [*]; done)), H', ⟨by have := HK1.out; have := HK2.out; have := HK3.out; omega⟩, ⟨by (with_reducible repeat (first | apply Kd.R_alloc | apply Kd.R_drewN | apply Kd.R_drew)); exact HO_278000.out⟩, ⟨by (with_reducible repeat (first | apply Kd.R_alloc | apply Kd.R_drewN | apply Kd.R_drew)); exact HO_278001.out⟩, ⟨by (with_reducible repeat (first | apply Kd.R_alloc | apply Kd.R_drewN | apply Kd.R_drew)); exact HO_278002.out⟩, ⟨by (with_reducible repeat (first | refine blk_drewN ?_ _ | refine blk_drew ?_ | refine blk_alloc ?_ _)); exact BK277.out⟩, ⟨by repeat (first | (with_reducible first | exact HK.out | apply Kept.alloc | apply Kept.drewN | apply Kept.drew | refine Kept.setCell ?_ (.inr GW277.out) _) | exact HK.out)⟩, ⟨by repeat (first | (with_reducible first | exact HB.out | apply below_alloc | apply pw_below_drewN | apply below_drew1 | refine below_set ?_ GE277.out) | exact HB.out)⟩⟩
                      · rw [if_neg c26] at H
                        exact absurd H (by simp)
                    · rw [if_neg c25] at H
                      exact absurd H (by simp)
                  · rw [if_neg c24] at H
                    have c24b0 : decide (x35_3 < (x278002_2.length : Int)) = false := decide_eq_false c24
                    clear c24
                    obtain ⟨y281, hy281⟩ : ∃ y_ : List (S82), y_ = (([(⟨0, 0, 0⟩ : S82), (⟨0, 0, 0⟩ : S82), (⟨0, 0, 0⟩ : S82)] : List (S82))) := ⟨_, rfl⟩
                    replace H : (if x278000_1.length + y281.length < 5864062014805 then ((some (([1, 2, 3, 4, 5, 6, 7, 8, 9] : List Int) : List Int)).bind fun y287 => (if x278001_3.length + y287.length < 140737488355328 then ((some (([1, 2, 3, 4, 5, 6, 7, 8, 9] : List Int) : List Int)).bind fun y293 => (if x278002_3.length + y293.length < 140737488355328 then (some (wrap64 ((wrap64 (((x278000_1 ++ y281).length : Int) + ((x278001_3 ++ y287).length : Int))) + ((x278002_3 ++ y293).length : Int)))) else (none))) else (none))) else (none)) = some r := by first | (rw [hy281]; with_reducible exact H) | (have H2_ := (Option.bind_some _ _).symm.trans H; rw [hy281]; with_reducible exact H2_) | (have H2_ := (Option.bind_some _ _).symm.trans H; with_reducible exact H2_) | with_reducible exact H | (rw [hy281]; exact H) | exact H
                    have Ny281 := Aside0.mk hy281
                    clear hy281
                    by_cases c31 : x278000_1.length + y281.length < 5864062014805
                    · rw [if_pos c31] at H
                      have LMc31 := Aside0.mk c31
                      clear c31
                      obtain ⟨y284, hy284⟩ : ∃ y_ : List (S82), y_ = (x278000_1 ++ y281) := ⟨_, rfl⟩
                      replace H : ((some (([1, 2, 3, 4, 5, 6, 7, 8, 9] : List Int) : List Int)).bind fun y287 => (if x278001_3.length + y287.length < 140737488355328 then ((some (([1, 2, 3, 4, 5, 6, 7, 8, 9] : List Int) : List Int)).bind fun y293 => (if x278002_3.length + y293.length < 140737488355328 then (some (wrap64 ((wrap64 ((y284.length : Int) + ((x278001_3 ++ y287).length : Int))) + ((x278002_3 ++ y293).length : Int)))) else (none))) else (none))) = some r := by first | (rw [hy284]; with_reducible exact H) | (have H2_ := (Option.bind_some _ _).symm.trans H; rw [hy284]; with_reducible exact H2_) | (have H2_ := (Option.bind_some _ _).symm.trans H; with_reducible exact H2_) | with_reducible exact H | (rw [hy284]; exact H) | exact H
                      have Ny284 := Aside0.mk hy284
                      clear hy284
                      obtain ⟨y287, hy287⟩ : ∃ y_ : List Int, y_ = (([1, 2, 3, 4, 5, 6, 7, 8, 9] : List Int)) := ⟨_, rfl⟩
                      replace H : (if x278001_3.length + y287.length < 140737488355328 then ((some (([1, 2, 3, 4, 5, 6, 7, 8, 9] : List Int) : List Int)).bind fun y293 => (if x278002_3.length + y293.length < 140737488355328 then (some (wrap64 ((wrap64 ((y284.length : Int) + ((x278001_3 ++ y287).length : Int))) + ((x278002_3 ++ y293).length : Int)))) else (none))) else (none)) = some r := by first | (rw [hy287]; with_reducible exact H) | (have H2_ := (Option.bind_some _ _).symm.trans H; rw [hy287]; with_reducible exact H2_) | (have H2_ := (Option.bind_some _ _).symm.trans H; with_reducible exact H2_) | with_reducible exact H | (rw [hy287]; exact H) | exact H
                      have Ny287 := Aside0.mk hy287
                      clear hy287
                      by_cases c32 : x278001_3.length + y287.length < 140737488355328
                      · rw [if_pos c32] at H
                        have LMc32 := Aside0.mk c32
                        clear c32
                        obtain ⟨y290, hy290⟩ : ∃ y_ : List Int, y_ = (x278001_3 ++ y287) := ⟨_, rfl⟩
                        replace H : ((some (([1, 2, 3, 4, 5, 6, 7, 8, 9] : List Int) : List Int)).bind fun y293 => (if x278002_3.length + y293.length < 140737488355328 then (some (wrap64 ((wrap64 ((y284.length : Int) + (y290.length : Int))) + ((x278002_3 ++ y293).length : Int)))) else (none))) = some r := by first | (rw [hy290]; with_reducible exact H) | (have H2_ := (Option.bind_some _ _).symm.trans H; rw [hy290]; with_reducible exact H2_) | (have H2_ := (Option.bind_some _ _).symm.trans H; with_reducible exact H2_) | with_reducible exact H | (rw [hy290]; exact H) | exact H
                        have Ny290 := Aside0.mk hy290
                        clear hy290
                        obtain ⟨y293, hy293⟩ : ∃ y_ : List Int, y_ = (([1, 2, 3, 4, 5, 6, 7, 8, 9] : List Int)) := ⟨_, rfl⟩
                        replace H : (if x278002_3.length + y293.length < 140737488355328 then (some (wrap64 ((wrap64 ((y284.length : Int) + (y290.length : Int))) + ((x278002_3 ++ y293).length : Int)))) else (none)) = some r := by first | (rw [hy293]; with_reducible exact H) | (have H2_ := (Option.bind_some _ _).symm.trans H; rw [hy293]; with_reducible exact H2_) | (have H2_ := (Option.bind_some _ _).symm.trans H; with_reducible exact H2_) | with_reducible exact H | (rw [hy293]; exact H) | exact H
                        have Ny293 := Aside0.mk hy293
                        clear hy293
                        by_cases c33 : x278002_3.length + y293.length < 140737488355328
                        · rw [if_pos c33] at H
                          have LMc33 := Aside0.mk c33
                          clear c33
                          obtain ⟨y296, hy296⟩ : ∃ y_ : List Int, y_ = (x278002_3 ++ y293) := ⟨_, rfl⟩
                          replace H : (some (wrap64 ((wrap64 ((y284.length : Int) + (y290.length : Int))) + (y296.length : Int)))) = some r := by first | (rw [hy296]; with_reducible exact H) | (have H2_ := (Option.bind_some _ _).symm.trans H; rw [hy296]; with_reducible exact H2_) | (have H2_ := (Option.bind_some _ _).symm.trans H; with_reducible exact H2_) | with_reducible exact H | (rw [hy296]; exact H) | exact H
                          have Ny296 := Aside0.mk hy296
                          clear hy296
                          obtain rfl := Option.some.inj H
                          have hcz34_0 : wr.cell? ⟨gb277, 0, none⟩ = some (u278000) := (blk_cell BK277.out 0).trans rfl
                          have hcz34_1 : wr.cell? ⟨gb277, 1, none⟩ = some (u278001) := (blk_cell BK277.out 1).trans rfl
                          have hcz34_2 : wr.cell? ⟨gb277, 2, none⟩ = some (u278002) := (blk_cell BK277.out 2).trans rfl
                          have hfz34_0 := blk_frozen BK277.out 0
                          have hfz34_1 := blk_frozen BK277.out 1
                          have hfz34_2 := blk_frozen BK277.out 2
                          go_wp2_with (first | ((with_reducible refine gate_dst (N := 48) rfl ?_); refine Kd.R_lit k82 _ 82 ?hg (N := 48) ?hd (xs := ([(⟨0, 0, 0⟩ : S82), (⟨0, 0, 0⟩ : S82), (⟨0, 0, 0⟩ : S82)] : List (S82))) (inner := [.int .i64 0, .int .i64 0, .int .i64 0, .int .i64 0, .int .i64 0, .int .i64 0, .int .i64 0, .int .i64 0, .int .i64 0]) (ok := fun _ => True) (okp := fun _ => True) ?hr ?hp (fun _ hk => hk) trivial (Below.refl _ _) (Nat.le_refl _) (by simp) ?_; (case hd => rfl); (case hg => rfl); (case hr => first | (go_simp; done) | (go_simp; rfl)); (case hp => exact (Reps.c3 (show Kd.M k82 _ _ _ (⟨0, 0, 0⟩ : S82) [.int .i64 0, .int .i64 0, .int .i64 0] from (k82_mkM _ _ _ (⟨0, 0, 0⟩ : S82) )) (Reps.c3 (show Kd.M k82 _ _ _ (⟨0, 0, 0⟩ : S82) [.int .i64 0, .int .i64 0, .int .i64 0] from (k82_mkM _ _ _ (⟨0, 0, 0⟩ : S82) )) (Reps.c3 (show Kd.M k82 _ _ _ (⟨0, 0, 0⟩ : S82) [.int .i64 0, .int .i64 0, .int .i64 0] from (k82_mkM _ _ _ (⟨0, 0, 0⟩ : S82) )) (Reps.none _ _))))); intro v282 w35 ho36 hb hg_ hnew_; clear hg_ hnew_; (first | rw [← Ny281.out] at ho36 | (simp only [Int.reduceToNat] at ho36; rw [← Ny281.out] at ho36)); have n0_ := Aside0.mk (Kd.R_elder' (by (with_reducible repeat (first | apply Kd.R_alloc | apply Kd.R_drewN | apply Kd.R_drew)); exact HO_278000.out) (Kd.R_base ho36) hb); have n1_ := Aside0.mk (Kd.R_below (by (with_reducible repeat (first | apply Kd.R_alloc | apply Kd.R_drewN | apply Kd.R_drew)); exact HO_278001.out) hb); have n2_ := Aside0.mk (Kd.R_below (by (with_reducible repeat (first | apply Kd.R_alloc | apply Kd.R_drewN | apply Kd.R_drew)); exact HO_278002.out) hb); have n3_ := Aside0.mk (Kd.R_lower (Kd.R_new' (Kd.R_newM (M := fun k_ => ((P0_0_ k_ ∨ P0_1_ k_ ∨ P0_2_ k_) ∨ w.heap.size ≤ k_)) ho36 (by first | exact HK.out.1 | exact (show Kept w _ (fun k_ => P0_0_ k_ ∨ P0_1_ k_ ∨ P0_2_ k_) from by repeat (first | (with_reducible first | exact HK.out | apply Kept.alloc | apply Kept.drewN | apply Kept.drew | refine Kept.setCell ?_ (.inr GW277.out) _) | exact HK.out)).1) (fun k_ h_ => .inr h_)) (Kd.R_lt (by (with_reducible repeat (first | apply Kd.R_alloc | apply Kd.R_drewN | apply Kd.R_drew)); exact HO_278000.out))) (below_size (by repeat (first | (with_reducible first | exact HB.out | apply below_alloc | apply pw_below_drewN | apply below_drew1 | refine below_set ?_ GE277.out) | exact HB.out)))); have n4_ := Aside0.mk (blk_below (g := gb277) (o := .cells #[u278000, u278001, u278002] 29 (0, 0)) (by (with_reducible repeat (first | refine blk_drewN ?_ _ | refine blk_drew ?_ | refine blk_alloc ?_ _)); exact BK277.out) hb); have n5_ := Aside0.mk (Kept.below (S := (fun k_ => P0_0_ k_ ∨ P0_1_ k_ ∨ P0_2_ k_)) (by repeat (first | (with_reducible first | exact HK.out | apply Kept.alloc | apply Kept.drewN | apply Kept.drew | refine Kept.setCell ?_ (.inr GW277.out) _) | exact HK.out)) hb); have n6_ := Aside0.mk (below_step (by repeat (first | (with_reducible first | exact HB.out | apply below_alloc | apply pw_below_drewN | apply below_drew1 | refine below_set ?_ GE277.out) | exact HB.out)) hb); clear HO_278000; clear HO_278001; clear HO_278002; clear BK277; clear HK; clear HB; have HO_278000 := n0_; have HO_278001 := n1_; have HO_278002 := n2_; have HO283 := n3_; have BK277 := n4_; have HK := n5_; have HB := n6_; clear n0_ n1_ n2_ n3_ n4_ n5_ n6_; clear hb ho36; obtain ⟨Ao38, co38, eo38⟩ := Kd.R_slice HO283.out; subst eo38) | ((with_reducible refine gate_builtin (b := .append) (xs := #[.tmp 44, .tmp 48]) rfl ?_); at_builtin; refine Kd.R_append_rows k82 (w0 := w0) w0.heap.size rfl (.tmp 44) (.tmp 48) 27 82 (.agg #[(.int .i64 0), (.int .i64 0), (.int .i64 0)]) 24 rfl Try.underlying27 info82 rfl (by decide) (by omega) u278000 x278000_1 y281 _ _ _ (fun k_ => ((P0_0_ k_ ∨ P0_1_ k_ ∨ P0_2_ k_) ∨ w.heap.size ≤ k_) ∧ some k_ ≠ (.slice Ao38 y281.length co38 : Value).ownBlock) (fun _ => False) rfl rfl ?aO ?aR (fun _ _ h => h) (fun _ h => h.elim) ?aF ?aB ?aS ?aL ?_; (case aR => repeat (first | exact (Kd.R_reads' HO283.out).2.2 | (with_reducible refine Kd.C_alloc ?_ _) | (with_reducible refine Kd.C_drewN ?_ _) | (with_reducible refine Kd.C_drew ?_))); (case aB => exact (by repeat (first | (with_reducible first | exact HB.out | apply below_alloc | apply pw_below_drewN | apply below_drew1 | refine below_set ?_ GE277.out) | exact HB.out))); (case aF => exact (fun k_ hk => ⟨(.inr (Nat.le_trans (by first | exact HK.out.1 | exact (show Kept w _ (fun k_ => P0_0_ k_ ∨ P0_1_ k_ ∨ P0_2_ k_) from by repeat (first | (with_reducible first | exact HK.out | apply Kept.alloc | apply Kept.drewN | apply Kept.drew | refine Kept.setCell ?_ (.inr GW277.out) _) | exact HK.out)).1) hk)), Kd.fresh' (Kd.R_lt (by (with_reducible repeat (first | apply Kd.R_alloc | apply Kd.R_drewN | apply Kd.R_drew)); exact HO283.out)) k_ hk⟩)); (case aO => exact (by (with_reducible repeat (first | apply Kd.R_alloc | apply Kd.R_drewN | apply Kd.R_drew)); exact HO_278000.out)); (case aS => exact (below_size (by repeat (first | (with_reducible first | exact HB.out | apply below_alloc | apply pw_below_drewN | apply below_drew1 | refine below_set ?_ GE277.out) | exact HB.out)))); (case aL => have := LMc31.out; omega); intro v285 w37 ho hb hg hat; rw [← Ny284.out] at ho; have n0_ := Aside0.mk (Kd.R_over' (by (with_reducible repeat (first | apply Kd.R_alloc | apply Kd.R_drewN | apply Kd.R_drew)); exact HO_278001.out) (Kd.R_typed (by (with_reducible repeat (first | apply Kd.R_alloc | apply Kd.R_drewN | apply Kd.R_drew)); exact HO_278000.out)) (by decide) hg); have n1_ := Aside0.mk (Kd.R_over' (by (with_reducible repeat (first | apply Kd.R_alloc | apply Kd.R_drewN | apply Kd.R_drew)); exact HO_278002.out) (Kd.R_typed (by (with_reducible repeat (first | apply Kd.R_alloc | apply Kd.R_drewN | apply Kd.R_drew)); exact HO_278000.out)) (by decide) hg); have n2_ := Aside0.mk (blk_grown (g := gb277) (o := .cells #[u278000, u278001, u278002] 29 (0, 0)) (by (with_reducible repeat (first | refine blk_drewN ?_ _ | refine blk_drew ?_ | refine blk_alloc ?_ _)); exact BK277.out) hg (Kd.R_ne HO_278000.out BK277.out (by decide))); have n3_ := Aside0.mk (Kd.R_after (ok := (fun k_ => ((P0_0_ k_ ∨ P0_1_ k_ ∨ P0_2_ k_) ∨ w.heap.size ≤ k_))) (by (with_reducible repeat (first | apply Kd.R_alloc | apply Kd.R_drewN | apply Kd.R_drew)); exact Kd.R_mono HO283.out (fun _ hk => ⟨hk.1.1, hk.2⟩)) hg hat); have n4_ := Aside0.mk (hb); have n5_ := Aside0.mk (Kept.of_grown (S := (fun k_ => P0_0_ k_ ∨ P0_1_ k_ ∨ P0_2_ k_)) hg (by repeat (first | (with_reducible first | exact HK.out | apply Kept.alloc | apply Kept.drewN | apply Kept.drew | refine Kept.setCell ?_ (.inr GW277.out) _) | exact HK.out)) (fun k_ e_ => (HO_278000.out.1 k_ e_).1)); have n6_ := Aside0.mk (ho); clear HO_278001; clear HO_278002; clear BK277; clear HO283; clear HB; clear HK; clear HO_278000; have HO_278001 := n0_; have HO_278002 := n1_; have BK277 := n2_; have HO283 := n3_; have HB := n4_; have HK := n5_; have HO286 := n6_; clear n0_ n1_ n2_ n3_ n4_ n5_ n6_; clear ho hb hg hat; have hcz39_0 : w37.cell? ⟨gb277, 0, none⟩ = some (u278000) := (blk_cell BK277.out 0).trans rfl; have hcz39_1 : w37.cell? ⟨gb277, 1, none⟩ = some (u278001) := (blk_cell BK277.out 1).trans rfl; have hcz39_2 : w37.cell? ⟨gb277, 2, none⟩ = some (u278002) := (blk_cell BK277.out 2).trans rfl; have hfz39_0 := blk_frozen BK277.out 0; have hfz39_1 := blk_frozen BK277.out 1; have hfz39_2 := blk_frozen BK277.out 2) | ((with_reducible refine gate_dst (N := 52) rfl ?_); refine Kd.R_lit (Kd.int .u8) _ 5 ?hg (N := 52) ?hd (xs := ([1, 2, 3, 4, 5, 6, 7, 8, 9] : List Int)) (inner := [.int .u8 1, .int .u8 2, .int .u8 3, .int .u8 4, .int .u8 5, .int .u8 6, .int .u8 7, .int .u8 8, .int .u8 9]) (ok := fun _ => True) (okp := fun _ => True) ?hr ?hp (fun _ hk => hk) trivial (Below.refl _ _) (Nat.le_refl _) (by simp) ?_; (case hd => rfl); (case hg => rfl); (case hr => first | (go_simp; done) | (go_simp; rfl)); (case hp => exact (Reps.one (show Kd.M (Kd.int .u8) _ _ _ 1 [.int .u8 1] from rfl) (Reps.one (show Kd.M (Kd.int .u8) _ _ _ 2 [.int .u8 2] from rfl) (Reps.one (show Kd.M (Kd.int .u8) _ _ _ 3 [.int .u8 3] from rfl) (Reps.one (show Kd.M (Kd.int .u8) _ _ _ 4 [.int .u8 4] from rfl) (Reps.one (show Kd.M (Kd.int .u8) _ _ _ 5 [.int .u8 5] from rfl) (Reps.one (show Kd.M (Kd.int .u8) _ _ _ 6 [.int .u8 6] from rfl) (Reps.one (show Kd.M (Kd.int .u8) _ _ _ 7 [.int .u8 7] from rfl) (Reps.one (show Kd.M (Kd.int .u8) _ _ _ 8 [.int .u8 8] from rfl) (Reps.one (show Kd.M (Kd.int .u8) _ _ _ 9 [.int .u8 9] from rfl) (Reps.none _ _))))))))))); intro v288 w40 ho41 hb hg_ hnew_; clear hg_ hnew_; (first | rw [← Ny287.out] at ho41 | (simp only [Int.reduceToNat] at ho41; rw [← Ny287.out] at ho41)); have n0_ := Aside0.mk (Kd.R_elder' (by (with_reducible repeat (first | apply Kd.R_alloc | apply Kd.R_drewN | apply Kd.R_drew)); exact HO_278001.out) (Kd.R_base ho41) hb); have n1_ := Aside0.mk (Kd.R_elder' (by (with_reducible repeat (first | apply Kd.R_alloc | apply Kd.R_drewN | apply Kd.R_drew)); exact HO_278002.out) (Kd.R_base ho41) hb); have n2_ := Aside0.mk (Kd.R_below (by (with_reducible repeat (first | apply Kd.R_alloc | apply Kd.R_drewN | apply Kd.R_drew)); exact HO283.out) hb); have n3_ := Aside0.mk (Kd.R_below (by (with_reducible repeat (first | apply Kd.R_alloc | apply Kd.R_drewN | apply Kd.R_drew)); exact HO286.out) hb); have n4_ := Aside0.mk (Kd.R_lower (Kd.R_new' (Kd.R_new' (Kd.R_newM (M := fun k_ => ((P0_0_ k_ ∨ P0_1_ k_ ∨ P0_2_ k_) ∨ w.heap.size ≤ k_)) ho41 (by first | exact HK.out.1 | exact (show Kept w _ (fun k_ => P0_0_ k_ ∨ P0_1_ k_ ∨ P0_2_ k_) from by repeat (first | (with_reducible first | exact HK.out | apply Kept.alloc | apply Kept.drewN | apply Kept.drew | refine Kept.setCell ?_ (.inr GW277.out) _) | exact HK.out)).1) (fun k_ h_ => .inr h_)) (Kd.R_lt (by (with_reducible repeat (first | apply Kd.R_alloc | apply Kd.R_drewN | apply Kd.R_drew)); exact HO_278001.out))) (Kd.R_lt (by (with_reducible repeat (first | apply Kd.R_alloc | apply Kd.R_drewN | apply Kd.R_drew)); exact HO_278002.out))) (below_size (by repeat (first | (with_reducible first | exact HB.out | apply below_alloc | apply pw_below_drewN | apply below_drew1 | refine below_set ?_ GE277.out) | exact HB.out)))); have n5_ := Aside0.mk (blk_below (g := gb277) (o := .cells #[u278000, u278001, u278002] 29 (0, 0)) (by (with_reducible repeat (first | refine blk_drewN ?_ _ | refine blk_drew ?_ | refine blk_alloc ?_ _)); exact BK277.out) hb); have n6_ := Aside0.mk (Kept.below (S := (fun k_ => P0_0_ k_ ∨ P0_1_ k_ ∨ P0_2_ k_)) (by repeat (first | (with_reducible first | exact HK.out | apply Kept.alloc | apply Kept.drewN | apply Kept.drew | refine Kept.setCell ?_ (.inr GW277.out) _) | exact HK.out)) hb); have n7_ := Aside0.mk (below_step (by repeat (first | (with_reducible first | exact HB.out | apply below_alloc | apply pw_below_drewN | apply below_drew1 | refine below_set ?_ GE277.out) | exact HB.out)) hb); clear HO_278001; clear HO_278002; clear HO283; clear HO286; clear BK277; clear HK; clear HB; have HO_278001 := n0_; have HO_278002 := n1_; have HO283 := n2_; have HO286 := n3_; have HO289 := n4_; have BK277 := n5_; have HK := n6_; have HB := n7_; clear n0_ n1_ n2_ n3_ n4_ n5_ n6_ n7_; clear hb ho41; obtain ⟨Ao43, co43, eo43⟩ := Kd.R_slice HO289.out; subst eo43) | ((with_reducible refine gate_builtin (b := .append) (xs := #[.tmp 51, .tmp 52]) rfl ?_); at_builtin; refine Kd.R_append_rows (Kd.int .u8) (w0 := w0) w0.heap.size rfl (.tmp 51) (.tmp 52) 24 5 (.int .u8 0) 1 rfl Try.underlying24 info5 rfl (by decide) (by omega) u278001 x278001_3 y287 _ _ _ (fun k_ => ((P0_0_ k_ ∨ P0_1_ k_ ∨ P0_2_ k_) ∨ w.heap.size ≤ k_) ∧ some k_ ≠ (u278002 : Value).ownBlock ∧ some k_ ≠ (.slice Ao43 y287.length co43 : Value).ownBlock) (fun _ => False) rfl rfl ?aO ?aR (fun _ _ h => h) (fun _ h => h.elim) ?aF ?aB ?aS ?aL ?_; (case aR => repeat (first | exact (Kd.R_reads' HO289.out).2.2 | (with_reducible refine Kd.C_alloc ?_ _) | (with_reducible refine Kd.C_drewN ?_ _) | (with_reducible refine Kd.C_drew ?_))); (case aB => exact (by repeat (first | (with_reducible first | exact HB.out | apply below_alloc | apply pw_below_drewN | apply below_drew1 | refine below_set ?_ GE277.out) | exact HB.out))); (case aF => exact (fun k_ hk => ⟨(.inr (Nat.le_trans (by first | exact HK.out.1 | exact (show Kept w _ (fun k_ => P0_0_ k_ ∨ P0_1_ k_ ∨ P0_2_ k_) from by repeat (first | (with_reducible first | exact HK.out | apply Kept.alloc | apply Kept.drewN | apply Kept.drew | refine Kept.setCell ?_ (.inr GW277.out) _) | exact HK.out)).1) hk)), Kd.fresh' (Kd.R_lt (by (with_reducible repeat (first | apply Kd.R_alloc | apply Kd.R_drewN | apply Kd.R_drew)); exact HO_278002.out)) k_ hk, Kd.fresh' (Kd.R_lt (by (with_reducible repeat (first | apply Kd.R_alloc | apply Kd.R_drewN | apply Kd.R_drew)); exact HO289.out)) k_ hk⟩)); (case aO => exact (by (with_reducible repeat (first | apply Kd.R_alloc | apply Kd.R_drewN | apply Kd.R_drew)); exact Kd.R_mono HO_278001.out (fun _ hk => ⟨hk.1.1, ⟨hk.1.2, hk.2⟩⟩))); (case aS => exact (below_size (by repeat (first | (with_reducible first | exact HB.out | apply below_alloc | apply pw_below_drewN | apply below_drew1 | refine below_set ?_ GE277.out) | exact HB.out)))); (case aL => have := LMc32.out; omega); intro v291 w42 ho hb hg hat; rw [← Ny290.out] at ho; have n0_ := Aside0.mk (Kd.R_after (ok := (fun k_ => ((P0_0_ k_ ∨ P0_1_ k_ ∨ P0_2_ k_) ∨ w.heap.size ≤ k_) ∧ some k_ ≠ (.slice Ao43 y287.length co43 : Value).ownBlock)) (by (with_reducible repeat (first | apply Kd.R_alloc | apply Kd.R_drewN | apply Kd.R_drew)); exact Kd.R_mono HO_278002.out (fun _ hk => ⟨⟨hk.1.1, hk.2⟩, hk.1.2⟩)) hg hat); have n1_ := Aside0.mk (blk_grown (g := gb277) (o := .cells #[u278000, u278001, u278002] 29 (0, 0)) (by (with_reducible repeat (first | refine blk_drewN ?_ _ | refine blk_drew ?_ | refine blk_alloc ?_ _)); exact BK277.out) hg (Kd.R_ne HO_278001.out BK277.out (by decide))); have n2_ := Aside0.mk (Kd.R_over' (by (with_reducible repeat (first | apply Kd.R_alloc | apply Kd.R_drewN | apply Kd.R_drew)); exact HO283.out) (Kd.R_typed (by (with_reducible repeat (first | apply Kd.R_alloc | apply Kd.R_drewN | apply Kd.R_drew)); exact HO_278001.out)) (by decide) hg); have n3_ := Aside0.mk (Kd.R_over' (by (with_reducible repeat (first | apply Kd.R_alloc | apply Kd.R_drewN | apply Kd.R_drew)); exact HO286.out) (Kd.R_typed (by (with_reducible repeat (first | apply Kd.R_alloc | apply Kd.R_drewN | apply Kd.R_drew)); exact HO_278001.out)) (by decide) hg); have n4_ := Aside0.mk (Kd.R_after (ok := (fun k_ => ((P0_0_ k_ ∨ P0_1_ k_ ∨ P0_2_ k_) ∨ w.heap.size ≤ k_) ∧ some k_ ≠ (u278002 : Value).ownBlock)) (by (with_reducible repeat (first | apply Kd.R_alloc | apply Kd.R_drewN | apply Kd.R_drew)); exact Kd.R_mono HO289.out (fun _ hk => ⟨⟨hk.1.1.1, hk.2⟩, hk.1.2⟩)) hg hat); have n5_ := Aside0.mk (hb); have n6_ := Aside0.mk (Kept.of_grown (S := (fun k_ => P0_0_ k_ ∨ P0_1_ k_ ∨ P0_2_ k_)) hg (by repeat (first | (with_reducible first | exact HK.out | apply Kept.alloc | apply Kept.drewN | apply Kept.drew | refine Kept.setCell ?_ (.inr GW277.out) _) | exact HK.out)) (fun k_ e_ => (HO_278001.out.1 k_ e_).1.1)); have n7_ := Aside0.mk (ho); clear HO_278002; clear BK277; clear HO283; clear HO286; clear HO289; clear HB; clear HK; clear HO_278001; have HO_278002 := n0_; have BK277 := n1_; have HO283 := n2_; have HO286 := n3_; have HO289 := n4_; have HB := n5_; have HK := n6_; have HO292 := n7_; clear n0_ n1_ n2_ n3_ n4_ n5_ n6_ n7_; clear ho hb hg hat; have hcz44_0 : w42.cell? ⟨gb277, 0, none⟩ = some (u278000) := (blk_cell BK277.out 0).trans rfl; have hcz44_1 : w42.cell? ⟨gb277, 1, none⟩ = some (u278001) := (blk_cell BK277.out 1).trans rfl; have hcz44_2 : w42.cell? ⟨gb277, 2, none⟩ = some (u278002) := (blk_cell BK277.out 2).trans rfl; have hfz44_0 := blk_frozen BK277.out 0; have hfz44_1 := blk_frozen BK277.out 1; have hfz44_2 := blk_frozen BK277.out 2) | ((with_reducible refine gate_dst (N := 56) rfl ?_); refine Kd.R_lit (Kd.int .u8) _ 5 ?hg (N := 56) ?hd (xs := ([1, 2, 3, 4, 5, 6, 7, 8, 9] : List Int)) (inner := [.int .u8 1, .int .u8 2, .int .u8 3, .int .u8 4, .int .u8 5, .int .u8 6, .int .u8 7, .int .u8 8, .int .u8 9]) (ok := fun _ => True) (okp := fun _ => True) ?hr ?hp (fun _ hk => hk) trivial (Below.refl _ _) (Nat.le_refl _) (by simp) ?_; (case hd => rfl); (case hg => rfl); (case hr => first | (go_simp; done) | (go_simp; rfl)); (case hp => exact (Reps.one (show Kd.M (Kd.int .u8) _ _ _ 1 [.int .u8 1] from rfl) (Reps.one (show Kd.M (Kd.int .u8) _ _ _ 2 [.int .u8 2] from rfl) (Reps.one (show Kd.M (Kd.int .u8) _ _ _ 3 [.int .u8 3] from rfl) (Reps.one (show Kd.M (Kd.int .u8) _ _ _ 4 [.int .u8 4] from rfl) (Reps.one (show Kd.M (Kd.int .u8) _ _ _ 5 [.int .u8 5] from rfl) (Reps.one (show Kd.M (Kd.int .u8) _ _ _ 6 [.int .u8 6] from rfl) (Reps.one (show Kd.M (Kd.int .u8) _ _ _ 7 [.int .u8 7] from rfl) (Reps.one (show Kd.M (Kd.int .u8) _ _ _ 8 [.int .u8 8] from rfl) (Reps.one (show Kd.M (Kd.int .u8) _ _ _ 9 [.int .u8 9] from rfl) (Reps.none _ _))))))))))); intro v294 w45 ho46 hb hg_ hnew_; clear hg_ hnew_; (first | rw [← Ny293.out] at ho46 | (simp only [Int.reduceToNat] at ho46; rw [← Ny293.out] at ho46)); have n0_ := Aside0.mk (Kd.R_elder' (by (with_reducible repeat (first | apply Kd.R_alloc | apply Kd.R_drewN | apply Kd.R_drew)); exact HO_278002.out) (Kd.R_base ho46) hb); have n1_ := Aside0.mk (Kd.R_below (by (with_reducible repeat (first | apply Kd.R_alloc | apply Kd.R_drewN | apply Kd.R_drew)); exact HO283.out) hb); have n2_ := Aside0.mk (Kd.R_below (by (with_reducible repeat (first | apply Kd.R_alloc | apply Kd.R_drewN | apply Kd.R_drew)); exact HO286.out) hb); have n3_ := Aside0.mk (Kd.R_elder' (by (with_reducible repeat (first | apply Kd.R_alloc | apply Kd.R_drewN | apply Kd.R_drew)); exact HO289.out) (Kd.R_base ho46) hb); have n4_ := Aside0.mk (Kd.R_elder' (by (with_reducible repeat (first | apply Kd.R_alloc | apply Kd.R_drewN | apply Kd.R_drew)); exact HO292.out) (Kd.R_base ho46) hb); have n5_ := Aside0.mk (Kd.R_lower (Kd.R_new' (Kd.R_new' (Kd.R_new' (Kd.R_newM (M := fun k_ => ((P0_0_ k_ ∨ P0_1_ k_ ∨ P0_2_ k_) ∨ w.heap.size ≤ k_)) ho46 (by first | exact HK.out.1 | exact (show Kept w _ (fun k_ => P0_0_ k_ ∨ P0_1_ k_ ∨ P0_2_ k_) from by repeat (first | (with_reducible first | exact HK.out | apply Kept.alloc | apply Kept.drewN | apply Kept.drew | refine Kept.setCell ?_ (.inr GW277.out) _) | exact HK.out)).1) (fun k_ h_ => .inr h_)) (Kd.R_lt (by (with_reducible repeat (first | apply Kd.R_alloc | apply Kd.R_drewN | apply Kd.R_drew)); exact HO_278002.out))) (Kd.R_lt (by (with_reducible repeat (first | apply Kd.R_alloc | apply Kd.R_drewN | apply Kd.R_drew)); exact HO289.out))) (Kd.R_lt (by (with_reducible repeat (first | apply Kd.R_alloc | apply Kd.R_drewN | apply Kd.R_drew)); exact HO292.out))) (below_size (by repeat (first | (with_reducible first | exact HB.out | apply below_alloc | apply pw_below_drewN | apply below_drew1 | refine below_set ?_ GE277.out) | exact HB.out)))); have n6_ := Aside0.mk (blk_below (g := gb277) (o := .cells #[u278000, u278001, u278002] 29 (0, 0)) (by (with_reducible repeat (first | refine blk_drewN ?_ _ | refine blk_drew ?_ | refine blk_alloc ?_ _)); exact BK277.out) hb); have n7_ := Aside0.mk (Kept.below (S := (fun k_ => P0_0_ k_ ∨ P0_1_ k_ ∨ P0_2_ k_)) (by repeat (first | (with_reducible first | exact HK.out | apply Kept.alloc | apply Kept.drewN | apply Kept.drew | refine Kept.setCell ?_ (.inr GW277.out) _) | exact HK.out)) hb); have n8_ := Aside0.mk (below_step (by repeat (first | (with_reducible first | exact HB.out | apply below_alloc | apply pw_below_drewN | apply below_drew1 | refine below_set ?_ GE277.out) | exact HB.out)) hb); clear HO_278002; clear HO283; clear HO286; clear HO289; clear HO292; clear BK277; clear HK; clear HB; have HO_278002 := n0_; have HO283 := n1_; have HO286 := n2_; have HO289 := n3_; have HO292 := n4_; have HO295 := n5_; have BK277 := n6_; have HK := n7_; have HB := n8_; clear n0_ n1_ n2_ n3_ n4_ n5_ n6_ n7_ n8_; clear hb ho46; obtain ⟨Ao48, co48, eo48⟩ := Kd.R_slice HO295.out; subst eo48) | ((with_reducible refine gate_builtin (b := .append) (xs := #[.tmp 55, .tmp 56]) rfl ?_); at_builtin; refine Kd.R_append_rows (Kd.int .u8) (w0 := w0) w0.heap.size rfl (.tmp 55) (.tmp 56) 24 5 (.int .u8 0) 1 rfl Try.underlying24 info5 rfl (by decide) (by omega) u278002 x278002_3 y293 _ _ _ (fun k_ => ((P0_0_ k_ ∨ P0_1_ k_ ∨ P0_2_ k_) ∨ w.heap.size ≤ k_) ∧ some k_ ≠ (.slice Ao43 y287.length co43 : Value).ownBlock ∧ some k_ ≠ (v291 : Value).ownBlock ∧ some k_ ≠ (.slice Ao48 y293.length co48 : Value).ownBlock) (fun _ => False) rfl rfl ?aO ?aR (fun _ _ h => h) (fun _ h => h.elim) ?aF ?aB ?aS ?aL ?_; (case aR => repeat (first | exact (Kd.R_reads' HO295.out).2.2 | (with_reducible refine Kd.C_alloc ?_ _) | (with_reducible refine Kd.C_drewN ?_ _) | (with_reducible refine Kd.C_drew ?_))); (case aB => exact (by repeat (first | (with_reducible first | exact HB.out | apply below_alloc | apply pw_below_drewN | apply below_drew1 | refine below_set ?_ GE277.out) | exact HB.out))); (case aF => exact (fun k_ hk => ⟨(.inr (Nat.le_trans (by first | exact HK.out.1 | exact (show Kept w _ (fun k_ => P0_0_ k_ ∨ P0_1_ k_ ∨ P0_2_ k_) from by repeat (first | (with_reducible first | exact HK.out | apply Kept.alloc | apply Kept.drewN | apply Kept.drew | refine Kept.setCell ?_ (.inr GW277.out) _) | exact HK.out)).1) hk)), Kd.fresh' (Kd.R_lt (by (with_reducible repeat (first | apply Kd.R_alloc | apply Kd.R_drewN | apply Kd.R_drew)); exact HO289.out)) k_ hk, Kd.fresh' (Kd.R_lt (by (with_reducible repeat (first | apply Kd.R_alloc | apply Kd.R_drewN | apply Kd.R_drew)); exact HO292.out)) k_ hk, Kd.fresh' (Kd.R_lt (by (with_reducible repeat (first | apply Kd.R_alloc | apply Kd.R_drewN | apply Kd.R_drew)); exact HO295.out)) k_ hk⟩)); (case aO => exact (by (with_reducible repeat (first | apply Kd.R_alloc | apply Kd.R_drewN | apply Kd.R_drew)); exact Kd.R_mono HO_278002.out (fun _ hk => ⟨hk.1.1.1, ⟨hk.1.1.2, ⟨hk.1.2, hk.2⟩⟩⟩))); (case aS => exact (below_size (by repeat (first | (with_reducible first | exact HB.out | apply below_alloc | apply pw_below_drewN | apply below_drew1 | refine below_set ?_ GE277.out) | exact HB.out)))); (case aL => have := LMc33.out; omega); intro v297 w47 ho hb hg hat; rw [← Ny296.out] at ho; have n0_ := Aside0.mk (blk_grown (g := gb277) (o := .cells #[u278000, u278001, u278002] 29 (0, 0)) (by (with_reducible repeat (first | refine blk_drewN ?_ _ | refine blk_drew ?_ | refine blk_alloc ?_ _)); exact BK277.out) hg (Kd.R_ne HO_278002.out BK277.out (by decide))); have n1_ := Aside0.mk (Kd.R_over' (by (with_reducible repeat (first | apply Kd.R_alloc | apply Kd.R_drewN | apply Kd.R_drew)); exact HO283.out) (Kd.R_typed (by (with_reducible repeat (first | apply Kd.R_alloc | apply Kd.R_drewN | apply Kd.R_drew)); exact HO_278002.out)) (by decide) hg); have n2_ := Aside0.mk (Kd.R_over' (by (with_reducible repeat (first | apply Kd.R_alloc | apply Kd.R_drewN | apply Kd.R_drew)); exact HO286.out) (Kd.R_typed (by (with_reducible repeat (first | apply Kd.R_alloc | apply Kd.R_drewN | apply Kd.R_drew)); exact HO_278002.out)) (by decide) hg); have n3_ := Aside0.mk (Kd.R_after (ok := (fun k_ => ((P0_0_ k_ ∨ P0_1_ k_ ∨ P0_2_ k_) ∨ w.heap.size ≤ k_) ∧ some k_ ≠ (v291 : Value).ownBlock ∧ some k_ ≠ (.slice Ao48 y293.length co48 : Value).ownBlock)) (by (with_reducible repeat (first | apply Kd.R_alloc | apply Kd.R_drewN | apply Kd.R_drew)); exact Kd.R_mono HO289.out (fun _ hk => ⟨⟨hk.1.1.1, ⟨hk.1.2, hk.2⟩⟩, hk.1.1.2⟩)) hg hat); have n4_ := Aside0.mk (Kd.R_after (ok := (fun k_ => ((P0_0_ k_ ∨ P0_1_ k_ ∨ P0_2_ k_) ∨ w.heap.size ≤ k_) ∧ some k_ ≠ (.slice Ao43 y287.length co43 : Value).ownBlock ∧ some k_ ≠ (.slice Ao48 y293.length co48 : Value).ownBlock)) (by (with_reducible repeat (first | apply Kd.R_alloc | apply Kd.R_drewN | apply Kd.R_drew)); exact Kd.R_mono HO292.out (fun _ hk => ⟨⟨hk.1.1, ⟨hk.1.2.2, hk.2⟩⟩, hk.1.2.1⟩)) hg hat); have n5_ := Aside0.mk (Kd.R_after (ok := (fun k_ => ((P0_0_ k_ ∨ P0_1_ k_ ∨ P0_2_ k_) ∨ w.heap.size ≤ k_) ∧ some k_ ≠ (.slice Ao43 y287.length co43 : Value).ownBlock ∧ some k_ ≠ (v291 : Value).ownBlock)) (by (with_reducible repeat (first | apply Kd.R_alloc | apply Kd.R_drewN | apply Kd.R_drew)); exact Kd.R_mono HO295.out (fun _ hk => ⟨⟨hk.1.1.1.1, ⟨hk.1.2, hk.2⟩⟩, hk.1.1.2⟩)) hg hat); have n6_ := Aside0.mk (hb); have n7_ := Aside0.mk (Kept.of_grown (S := (fun k_ => P0_0_ k_ ∨ P0_1_ k_ ∨ P0_2_ k_)) hg (by repeat (first | (with_reducible first | exact HK.out | apply Kept.alloc | apply Kept.drewN | apply Kept.drew | refine Kept.setCell ?_ (.inr GW277.out) _) | exact HK.out)) (fun k_ e_ => (HO_278002.out.1 k_ e_).1.1.1)); have n8_ := Aside0.mk (ho); clear BK277; clear HO283; clear HO286; clear HO289; clear HO292; clear HO295; clear HB; clear HK; clear HO_278002; have BK277 := n0_; have HO283 := n1_; have HO286 := n2_; have HO289 := n3_; have HO292 := n4_; have HO295 := n5_; have HB := n6_; have HK := n7_; have HO298 := n8_; clear n0_ n1_ n2_ n3_ n4_ n5_ n6_ n7_ n8_; clear ho hb hg hat; obtain ⟨Ao49, co49, eo49⟩ := Kd.R_slice HO286.out; subst eo49; obtain ⟨Ao50, co50, eo50⟩ := Kd.R_slice HO292.out; subst eo50; obtain ⟨Ao51, co51, eo51⟩ := Kd.R_slice HO298.out; subst eo51))
                          go_ret
                          exact ⟨by first | rfl | (simp [errW_none, errW_some] <;> rfl) | (simp [*, errW_none, errW_some] <;> rfl), by repeat (first | (with_reducible first | exact HB.out | apply below_alloc | apply pw_below_drewN | apply below_drew1 | refine below_set ?_ GE277.out) | exact HB.out), by repeat (first | (with_reducible first | exact HK.out | apply Kept.alloc | apply Kept.drewN | apply Kept.drew | refine Kept.setCell ?_ (.inr GW277.out) _) | exact HK.out)⟩
                        · rw [if_neg c33] at H
                          exact absurd H (by simp)
                      · rw [if_neg c32] at H
                        exact absurd H (by simp)
                    · rw [if_neg c31] at H
                      exact absurd H (by simp)
end Go.Proofs.Ytinlfoblpgpikaa.Pr
