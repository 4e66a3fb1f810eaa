/- vcd: encoded, of the example. -/
import Derived.Test.YtmfnjmecnhagmaaNu
namespace Go.Proofs.Ytmfnjmecnhagmaa
open Go.RowKit Go.ChangeShapes Go.WideShapes Go.Shelf Go.Maps Go.Proofs.YtmfnjmecnhagmaaW.PrintWords Go.Proofs.YtmfnjmecnhagmaaW.PrintLast Go.Proofs.YtmfnjmecnhagmaaW.PrintMore Go.Proofs.Ytmfnjmecnhagmaa.Pr
set_option linter.unusedVariables false
set_option linter.unusedSimpArgs false
theorem nf8 : vcd_number.f 20 8 = some [8] := by decide +kernel
theorem nf0 : vcd_number.f 20 0 = some [0] := by decide +kernel
theorem nf1 : vcd_number.f 20 1 = some [1] := by decide +kernel
theorem nf7 : vcd_number.f 20 7 = some [7] := by decide +kernel
attribute [-go_sem] Builtin.append_
set_option maxRecDepth 100000 in
set_option maxHeartbeats 16000000 in
theorem encoded8 {W : World} {b : Nat} {B : Option Addr} {cb : Nat} (h : Kd.C k149 W B 8 orgs8) (hb : 8 ≤ cb) (hm : MapT W b 256 (codesF 256)) : Calls Try.prog 47 #[.slice B 8 cb, .int .i64 8, .map (some b)] W fun e w' => ∃ A c, e = .returned (.slice A 11 c) ∧ OB w' W.heap.size (.slice A 11 c) [1, 8, 0, 7, 8, 0, 0, 1, 1, 120, 0] ∧ Below W.heap.size W w' := by
  have HM := Hd.mk hm
  have HI := Hd.mk (insts8 h hb)
  clear h hm
  go_enter Try.func47, Try.ntmps47
  go_wp2_with fail
  refine HI.out.mono ?_
  rintro e w1 ⟨Ax, cx, rfl, hx, hb1⟩
  have HX := Hd.mk hx
  have HB1 := Hd.mk hb1
  clear hx hb1 HI
  obtain ⟨gx, hA, hcell⟩ := OH.cells HX.out (by simp)
  subst hA
  have i0 : w1.cell? ⟨gx, 0, none⟩ = some (.int .i64 3) := hcell 0 _ rfl
  have i1 : w1.cell? ⟨gx, 1, none⟩ = some (.int .i64 8) := hcell 1 _ rfl
  have i2 : w1.cell? ⟨gx, 2, none⟩ = some (.int .i64 0) := hcell 2 _ rfl
  clear hcell
  go_wp2_with fail
  refine wp_loop_rounds 2 ?_
  rw [rounds_succ]
  have hba := (Below.refl w1.heap.size w1).alloc (Nat.le_refl _) (.cells #[.int .i64 3, .int .i64 8, .int .i64 0] 90)
  have hY := blk_new w1 (.cells #[.int .i64 3, .int .i64 8, .int .i64 0] 90)
  obtain ⟨gy, hgy⟩ : ∃ g, w1.heap.size = g := ⟨_, rfl⟩
  obtain ⟨w2, hw2⟩ : ∃ v, w1.alloc (.cells #[.int .i64 3, .int .i64 8, .int .i64 0] 90) = v := ⟨_, rfl⟩
  rw [hw2] at hba hY
  rw [hgy] at hY
  have HW2 := Hd.mk hw2
  have HGY := Hd.mk hgy
  have HY := Hd.mk hY
  have HX2 := Hd.mk (pw_own_below HX.out hba)
  have HB2 := Hd.mk (below_step HB1.out hba)
  clear hba hY hgy hw2
  go_upto_region 7 with fail
  rw [HW2.out]
  simp only [HGY.out]
  clear HW2 i0 i1 i2 HX HB1
  have y0 := blk_cell HY.out 0
  simp at y0
  go_wp2_with fail
  rw [rounds_succ]
  clear y0
  have ho3 := litB w2 1
  have hb3 := (Below.refl w2.heap.size w2).alloc (Nat.le_refl _) (.cells #[.int .u8 1] 5)
  go_wp2_with fail
  obtain ⟨w3, hw3⟩ : ∃ v, w2.alloc (.cells #[.int .u8 1] 5) = v := ⟨_, rfl⟩
  rw [hw3] at ho3 hb3 ⊢
  have HO3 := Hd.mk ho3
  have HX3 := Hd.mk (pw_own_below HX2.out hb3)
  have HB3 := Hd.mk (below_step HB2.out hb3)
  have hs3 := hb3.size
  clear ho3 hb3 hw3 HY
  have hxl : ∀ k, (Value.slice (some ⟨gx, 0, none⟩) 1 cx).ownBlock = some k → k < w2.heap.size := fun k hk => own_lt HX2.out k hk
  have HXL := Hd.mk hxl
  clear hxl HX2
  refine (num_c 20 8 [8] nf8 1 rfl w3).mono ?_
  rintro e w4 ⟨A4, c4, rfl, ho4, hb4⟩
  obtain ⟨A5, c5, w5, hrun5, ho5, hb5, _⟩ := appB (c2 := c4) (pw_own_below HO3.out hb4) (Nat.le_trans hs3 hb4.size) (OB.C ho4 rfl).1 (by omega) rfl
  have HR5 := Hd.mk hrun5
  have HO5 := Hd.mk ho5
  have HX5 := Hd.mk (own_keep (pw_own_below HX3.out hb4) hb5 HXL.out)
  have hs2 := HB2.out.size
  have HB5 := Hd.mk ((below_step HB3.out hb4).trans (hb5.mono hs2))
  have hs5 := Nat.le_trans (Nat.le_trans hs3 hb4.size) hb5.size
  clear hrun5 ho5 hb5 ho4 hb4 HO3 HX3 HB3
  have hr5 := HR5.out
  go_wp2_with fail
  clear hr5 HR5
  refine (num_c 20 0 [0] nf0 1 rfl w5).mono ?_
  rintro e w6 ⟨A6, c6, rfl, ho6, hb6⟩
  obtain ⟨A7, c7, w7, hrun7, ho7, hb7, _⟩ := appB (c2 := c6) (pw_own_below HO5.out hb6) (Nat.le_trans hs5 hb6.size) (OB.C ho6 rfl).1 (by omega) rfl
  have HR7 := Hd.mk hrun7
  have HO7 := Hd.mk ho7
  have HX7 := Hd.mk (own_keep (pw_own_below HX5.out hb6) hb7 HXL.out)
  have HB7 := Hd.mk ((below_step HB5.out hb6).trans (hb7.mono hs2))
  clear hrun7 ho7 hb7 ho6 hb6 HO5 HX5 HB5
  have hr7 := HR7.out
  go_wp2_with fail
  clear hr7 HR7
  refine (written8 HX7.out (HM.out.below HB7.out)).mono ?_
  rintro e w8 ⟨Ac, cc, Aa, ca, rfl, hoc, hoa, hb8⟩
  have HO8 := Hd.mk (own_weaken (pw_own_below HO7.out hb8) hs2)
  have HB8 := Hd.mk (below_step HB7.out hb8)
  have HC8 := Hd.mk (own_weaken hoc HB7.out.size)
  have HA8 := Hd.mk (own_weaken hoa HB7.out.size)
  clear hoc hoa hb8 HO7 HX7 HB7 HXL HM
  go_wp2_with fail
  refine (num_c 20 8 [8] nf8 1 rfl w8).mono ?_
  rintro e w9 ⟨A9, c9, rfl, ho9, hb9⟩
  have HS9 : Hd (St W w8.heap.size w9 (.slice A7 (1 + 1 + 1) c7) (.slice Ac 1 cc) (.slice Aa 1 ca) (.slice A9 1 c9) ([1] ++ [8] ++ [0]) [120] [0] [8]) :=
    ⟨⟨pw_own_below HO8.out hb9, pw_own_below HC8.out hb9, pw_own_below HA8.out hb9, ho9, below_step HB8.out hb9, HB8.out.size, hb9.size, fun k hk => own_lt HO8.out k hk, fun k hk => own_lt HC8.out k hk, fun k hk => own_lt HA8.out k hk⟩⟩
  clear ho9 hb9 HO8 HB8 HC8 HA8
  have hba := (Below.refl w9.heap.size w9).alloc (Nat.le_refl _) (.cells #[.int .u8 0] 5)
  obtain ⟨A11, c11, w11, hr11, hs11, _⟩ := (HS9.out.below hba).app 1 (OB.C (litB w9 0) rfl).1 (by omega) rfl
  have hr11 : (Builtin.append_ #[34, 34] 34 #[.slice A9 1 c9, .slice (some ⟨w9.heap.size, 0, none⟩) 1 1]).run Try.prog (w9.alloc (.cells #[.int .u8 0] 5)) = .ok (.slice A11 2 c11) w11 := hr11
  have HS11 : Hd (St W w8.heap.size w11 (.slice A7 3 c7) (.slice Ac 1 cc) (.slice Aa 1 ca) (.slice A11 2 c11) [1, 8, 0] [120] [0] [8, 0]) := ⟨hs11⟩
  clear hba hs11 HS9
  have hba := (Below.refl w11.heap.size w11).alloc (Nat.le_refl _) (.cells #[.slice none 0 0, .slice Ac 1 cc, .slice Aa 1 ca] 34)
  have hg := blk_new w11 (.cells #[.slice none 0 0, .slice Ac 1 cc, .slice Aa 1 ca] 34)
  obtain ⟨gs, hgg⟩ : ∃ g, w11.heap.size = g := ⟨_, rfl⟩
  obtain ⟨w12, hww⟩ : ∃ v, w11.alloc (.cells #[.slice none 0 0, .slice Ac 1 cc, .slice Aa 1 ca] 34) = v := ⟨_, rfl⟩
  rw [hww] at hba hg
  rw [hgg] at hg
  have HWw12 := Hd.mk hww
  have HGgs := Hd.mk hgg
  have HKw12 := Hd.mk hg
  have HSw12 : Hd (St W w8.heap.size w12 (.slice A7 3 c7) (.slice Ac 1 cc) (.slice Aa 1 ca) (.slice A11 2 c11) [1, 8, 0] [120] [0] [8, 0]) := ⟨HS11.out.below hba⟩
  clear hba hg hgg hww HS11
  go_wp2
  rw [HWw12.out]
  simp only [HGgs.out]
  clear hr11
  refine wp_loop_rounds 4 ?_
  rw [rounds_succ]
  have k0 := blk_cell HKw12.out 0
  have k1 := blk_cell HKw12.out 1
  have k2 := blk_cell HKw12.out 2
  simp at k0 k1 k2
  go_wp2_with fail
  clear k0 k1 k2
  refine (num_c 20 0 [0] nf0 1 rfl w12).mono ?_
  rintro e w13 ⟨A13, c13, rfl, ho, hb⟩
  obtain ⟨A14, c14, w14, hr, hs, hk⟩ := (HSw12.out.below hb).app c13 (OB.C ho rfl).1 (by omega) rfl
  have hr : (Builtin.append_ #[34, 34] 34 #[.slice A11 2 c11, .slice A13 1 c13]).run Try.prog (w13) = .ok (.slice A14 3 c14) w14 := hr
  have HSw14 : Hd (St W w8.heap.size w14 (.slice A7 3 c7) (.slice Ac 1 cc) (.slice Aa 1 ca) (.slice A14 3 c14) [1, 8, 0] [120] [0] [8, 0, 0]) := ⟨hs⟩
  have HKw14 := Hd.mk (hk gs _ _ (blk_below HKw12.out hb) (by decide))
  clear hs hk ho hb HSw12 HKw12
  go_wp2_with fail
  clear hr
  rw [rounds_succ]
  have k0 := blk_cell HKw14.out 0
  have k1 := blk_cell HKw14.out 1
  have k2 := blk_cell HKw14.out 2
  simp at k0 k1 k2
  go_wp2_with fail
  clear k0 k1 k2
  refine (num_c 20 1 [1] nf1 1 rfl w14).mono ?_
  rintro e w15 ⟨A15, c15, rfl, ho, hb⟩
  obtain ⟨A16, c16, w16, hr, hs, hk⟩ := (HSw14.out.below hb).app c15 (OB.C ho rfl).1 (by omega) rfl
  have hr : (Builtin.append_ #[34, 34] 34 #[.slice A14 3 c14, .slice A15 1 c15]).run Try.prog (w15) = .ok (.slice A16 4 c16) w16 := hr
  have HSw16 : Hd (St W w8.heap.size w16 (.slice A7 3 c7) (.slice Ac 1 cc) (.slice Aa 1 ca) (.slice A16 4 c16) [1, 8, 0] [120] [0] [8, 0, 0, 1]) := ⟨hs⟩
  have HKw16 := Hd.mk (hk gs _ _ (blk_below HKw14.out hb) (by decide))
  clear hs hk ho hb HSw14 HKw14
  go_wp2_with fail
  clear hr
  rw [rounds_succ]
  have k0 := blk_cell HKw16.out 0
  have k1 := blk_cell HKw16.out 1
  have k2 := blk_cell HKw16.out 2
  simp at k0 k1 k2
  go_wp2_with fail
  clear k0 k1 k2
  refine (num_c 20 1 [1] nf1 1 rfl w16).mono ?_
  rintro e w17 ⟨A17, c17, rfl, ho, hb⟩
  obtain ⟨A18, c18, w18, hr, hs, hk⟩ := (HSw16.out.below hb).app c17 (OB.C ho rfl).1 (by omega) rfl
  have hr : (Builtin.append_ #[34, 34] 34 #[.slice A16 4 c16, .slice A17 1 c17]).run Try.prog (w17) = .ok (.slice A18 5 c18) w18 := hr
  have HSw18 : Hd (St W w8.heap.size w18 (.slice A7 3 c7) (.slice Ac 1 cc) (.slice Aa 1 ca) (.slice A18 5 c18) [1, 8, 0] [120] [0] [8, 0, 0, 1, 1]) := ⟨hs⟩
  have HKw18 := Hd.mk (hk gs _ _ (blk_below HKw16.out hb) (by decide))
  clear hs hk ho hb HSw16 HKw16
  go_wp2_with fail
  clear hr
  rw [rounds_succ]
  have hba := (Below.refl w18.heap.size w18).alloc (Nat.le_refl _) (.cells #[.slice none 0 0, .slice Ac 1 cc, .slice Aa 1 ca] 34)
  have hg := blk_new w18 (.cells #[.slice none 0 0, .slice Ac 1 cc, .slice Aa 1 ca] 34)
  obtain ⟨gt, hgg⟩ : ∃ g, w18.heap.size = g := ⟨_, rfl⟩
  obtain ⟨w19, hww⟩ : ∃ v, w18.alloc (.cells #[.slice none 0 0, .slice Ac 1 cc, .slice Aa 1 ca] 34) = v := ⟨_, rfl⟩
  rw [hww] at hba hg
  rw [hgg] at hg
  have HWw19 := Hd.mk hww
  have HGgt := Hd.mk hgg
  have HKw19 := Hd.mk hg
  have HSw19 : Hd (St W w8.heap.size w19 (.slice A7 3 c7) (.slice Ac 1 cc) (.slice Aa 1 ca) (.slice A18 5 c18) [1, 8, 0] [120] [0] [8, 0, 0, 1, 1]) := ⟨HSw18.out.below hba⟩
  clear hba hg hgg hww HSw18
  go_wp2
  rw [HWw19.out]
  simp only [HGgt.out]
  refine wp_loop_rounds 4 ?_
  rw [rounds_succ]
  have k0 := blk_cell HKw19.out 0
  have k1 := blk_cell HKw19.out 1
  have k2 := blk_cell HKw19.out 2
  simp at k0 k1 k2
  obtain ⟨A20, c20, w20, hr, hs, hk⟩ := HSw19.out.app 0 (nilC _) (by omega) rfl
  have hr : (Builtin.append_ #[34, 34] 34 #[.slice A18 5 c18, .slice none 0 0]).run Try.prog (w19) = .ok (.slice A20 5 c20) w20 := hr
  have HSw20 : Hd (St W w8.heap.size w20 (.slice A7 3 c7) (.slice Ac 1 cc) (.slice Aa 1 ca) (.slice A20 5 c20) [1, 8, 0] [120] [0] [8, 0, 0, 1, 1]) := ⟨hs⟩
  have HKw20 := Hd.mk (hk gt _ _ HKw19.out (by decide))
  clear hs hk HSw19 HKw19
  go_wp2_with fail
  clear hr k0 k1 k2
  rw [rounds_succ]
  have k0 := blk_cell HKw20.out 0
  have k1 := blk_cell HKw20.out 1
  have k2 := blk_cell HKw20.out 2
  simp at k0 k1 k2
  obtain ⟨A21, c21, w21, hr, hs, hk⟩ := HSw20.out.app cc (OB.C HSw20.out.c rfl).1 (by omega) rfl
  have hr : (Builtin.append_ #[34, 34] 34 #[.slice A20 5 c20, .slice Ac 1 cc]).run Try.prog (w20) = .ok (.slice A21 6 c21) w21 := hr
  have HSw21 : Hd (St W w8.heap.size w21 (.slice A7 3 c7) (.slice Ac 1 cc) (.slice Aa 1 ca) (.slice A21 6 c21) [1, 8, 0] [120] [0] [8, 0, 0, 1, 1, 120]) := ⟨hs⟩
  have HKw21 := Hd.mk (hk gt _ _ HKw20.out (by decide))
  clear hs hk HSw20 HKw20
  go_wp2_with fail
  clear hr k0 k1 k2
  rw [rounds_succ]
  have k0 := blk_cell HKw21.out 0
  have k1 := blk_cell HKw21.out 1
  have k2 := blk_cell HKw21.out 2
  simp at k0 k1 k2
  obtain ⟨A22, c22, w22, hr, hs, hk⟩ := HSw21.out.app ca (OB.C HSw21.out.a rfl).1 (by omega) rfl
  have hr : (Builtin.append_ #[34, 34] 34 #[.slice A21 6 c21, .slice Aa 1 ca]).run Try.prog (w21) = .ok (.slice A22 7 c22) w22 := hr
  have HSw22 : Hd (St W w8.heap.size w22 (.slice A7 3 c7) (.slice Ac 1 cc) (.slice Aa 1 ca) (.slice A22 7 c22) [1, 8, 0] [120] [0] [8, 0, 0, 1, 1, 120, 0]) := ⟨hs⟩
  have HKw22 := Hd.mk (hk gt _ _ HKw21.out (by decide))
  clear hs hk HSw21 HKw21
  go_wp2_with fail
  clear hr k0 k1 k2
  rw [rounds_succ]
  go_wp2_with fail
  clear HKw22
  refine (num_c 20 7 [7] nf7 1 rfl w22).mono ?_
  rintro e w23 ⟨A23, c23, rfl, ho, hb⟩
  have hs := HSw22.out.below hb
  obtain ⟨A24, c24, w24, hr, ho24, hb24, hg24⟩ := appB (c2 := c23) (n := 3) hs.b hs.be.size (OB.C ho rfl).1 (by omega) rfl
  have hbo : OB w24 w8.heap.size (.slice A22 7 c22) [8, 0, 0, 1, 1, 120, 0] := own_other hs.body hg24 (by
    cases hq : (Value.slice A22 7 c22).ownBlock with
    | none => exact .inl rfl
    | some k => exact .inr (fun e => by have h1 := own_base hs.body k hq; have h2 := hs.bl k e.symm; omega))
  obtain ⟨A25, c25, w25, hr2, ho25, hb25, _⟩ := appB (c2 := c22) (n := 3 + 1) (m := 7) ho24 (Nat.le_trans hs.be.size hb24.size) (OB.C hbo rfl).1 (by omega) rfl
  have HR : Hd ((Builtin.append_ #[34, 34] 34 #[.slice A7 3 c7, .slice A23 1 c23]).run Try.prog w23 = .ok (.slice A24 4 c24) w24) := ⟨hr⟩
  have HR2 : Hd ((Builtin.append_ #[34, 34] 34 #[.slice A24 4 c24, .slice A22 7 c22]).run Try.prog w24 = .ok (.slice A25 11 c25) w25) := ⟨hr2⟩
  have HO25 : Hd (OB w25 W.heap.size (.slice A25 11 c25) [1, 8, 0, 7, 8, 0, 0, 1, 1, 120, 0]) := ⟨ho25⟩
  have HB25 := Hd.mk ((hs.be.trans hb24).trans hb25)
  clear ho hb hs hr ho24 hb24 hg24 hbo hr2 ho25 hb25 HSw22
  have hr1 := HR.out
  have hr2 := HR2.out
  clear HR HR2
  go_wp2_with fail
  go_ret
  exact ⟨A25, c25, rfl, HO25.out, HB25.out⟩
end Go.Proofs.Ytmfnjmecnhagmaa
