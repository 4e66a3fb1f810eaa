/- vcd: Encode, of the example. -/
import Derived.Test.YtmfnjmecnhagmaaCv
namespace Go.Proofs.Ytmfnjmecnhagmaa
open Go.RowKit Go.ChangeShapes Go.WideShapes Go.Shelf Go.Maps Go.Proofs.YtmfnjmecnhagmaaW.PrintWords Go.Proofs.YtmfnjmecnhagmaaW.PrintLast Go.Proofs.YtmfnjmecnhagmaaW.PrintMore Go.Proofs.Ytmfnjmecnhagmaa.Pr
set_option linter.unusedVariables false
set_option linter.unusedSimpArgs false
def zer8 : List Int := [0, 0, 0, 0, 0, 0, 0, 0]
theorem ae8 : appliedE made8 [⟨8, 0, 0⟩] zer8 [] = 0 := by decide +kernel
theorem ap8 : applied made8 [⟨8, 0, 0⟩] zer8 [] = made8 := by decide +kernel
theorem inn8 : Inn 8 (og [⟨8, 0, 0⟩] zer8 [] 0) := by
  have h : ∀ o ∈ og [⟨8, 0, 0⟩] zer8 [] 0, o.f0 = true → 0 ≤ o.f1 ∧ o.f1 < 8 := by decide +kernel
  exact h
theorem apply8 {W : World} {Ao : Option Addr} {co : Nat} {A0 : Option Addr} {c0 : Nat} {A1 : Option Addr} {c1 : Nat} (hO : (Kd.int .u8).C W Ao 8 made8) (hoc : 8 ≤ co) (hE : EdC W A0 c0 [⟨8, 0, 0⟩] A1 c1 zer8 none 0 []) :
    Calls Try.prog 40 #[.slice Ao 8 co, .agg #[.slice A0 1 c0, .slice A1 8 c1, .slice none 0 0]] W fun e w' => ∃ A c, e = .returned (.tuple #[.slice A 8 c, .int .i64 0]) ∧ OB w' W.heap.size (.slice A 8 c) made8 ∧ Below W.heap.size W w' := by
  have := apply_c Ao co made8 A0 c0 [⟨8, 0, 0⟩] A1 c1 zer8 none 0 [] W hO hoc hE (fun _ => inn8)
  rw [ae8, ap8] at this
  refine Calls.mono this ?_
  rintro e w' ⟨v, rfl, hv, hb⟩
  obtain ⟨A, c, rfl⟩ := own_slice hv
  exact ⟨A, c, rfl, hv, hb⟩
def magic5 : List Int := [214, 195, 196, 0, 0]
def delta8 : List Int := [214, 195, 196, 0, 0, 1, 8, 0, 7, 8, 0, 0, 1, 1, 120, 0]
attribute [-go_sem] Builtin.append_
set_option maxRecDepth 100000 in
set_option maxHeartbeats 16000000 in
theorem encode8 {W : World} {Ao : Option Addr} {co : Nat} {A0 : Option Addr} {c0 : Nat} {A1 : Option Addr} {c1 : Nat} (hO : (Kd.int .u8).C W Ao 8 made8) (hoc : 8 ≤ co) (hE : EdC W A0 c0 [⟨8, 0, 0⟩] A1 c1 zer8 none 0 []) :
    Calls Try.prog 21 #[.slice Ao 8 co, .agg #[.slice A0 1 c0, .slice A1 8 c1, .slice none 0 0], .int .i64 64] W fun e w' => ∃ A c, e = .returned (.tuple #[.slice A 16 c, .int .i64 0]) ∧ OB w' W.heap.size (.slice A 16 c) delta8 ∧ Below W.heap.size W w' := by
  have hba := (Below.refl W.heap.size W).alloc (Nat.le_refl _) (.cells #[.slice A0 1 c0, .slice A1 8 c1, .slice none 0 0] 37)
  have hg := blk_new W (.cells #[.slice A0 1 c0, .slice A1 8 c1, .slice none 0 0] 37)
  obtain ⟨w1, hw1⟩ : ∃ v, W.alloc (.cells #[.slice A0 1 c0, .slice A1 8 c1, .slice none 0 0] 37) = v := ⟨_, rfl⟩
  obtain ⟨ge, hge⟩ : ∃ g, W.heap.size = g := ⟨_, rfl⟩
  rw [hw1] at hba hg
  rw [hge] at hg
  have HW1 := Hd.mk hw1
  have HGE := Hd.mk hge
  have HG1 := Hd.mk hg
  have HB1 := Hd.mk hba
  have HE := Hd.mk hE
  have HO := Hd.mk hO
  clear hba hg hw1 hge hE hO
  go_enter Try.func21, Try.ntmps21
  go_upto_region 1 with fail
  rw [HW1.out]
  simp only [HGE.out]
  have e0 := blk_cell HG1.out 0
  have e1 := blk_cell HG1.out 1
  have e2 := blk_cell HG1.out 2
  simp at e0 e1 e2
  go_wp2_with fail
  clear HW1
  refine (apply8 (Kd.C_below HO.out HB1.out) hoc (HE.out.below HB1.out)).mono ?_
  rintro e w2 ⟨Am, cm, rfl, hm, hb2⟩
  have HM2 := Hd.mk (OB.C hm rfl)
  have HG2 := Hd.mk (blk_below HG1.out hb2)
  have HB2 := Hd.mk (below_step HB1.out hb2)
  clear hm hb2 HG1 HB1 e0 e1 e2
  have hcv := conv_lit w2 #[.int .u8 214, .int .u8 195, .int .u8 196, .int .u8 0, .int .u8 0] 5 5
  have es : #[Value.int .u8 214, Value.int .u8 195, Value.int .u8 196, Value.int .u8 0, Value.int .u8 0].size = 5 := rfl
  rw [es] at hcv
  have hl := litC w2 magic5 5 5 (5, 5 + 1) rfl (by omega)
  have hb3 := (Below.refl w2.heap.size w2).alloc (Nat.le_refl _) (.cells (nums .u8 magic5).toArray 5 (5, 5 + 1))
  obtain ⟨w3, hw3⟩ : ∃ v, w2.alloc (.cells #[.int .u8 214, .int .u8 195, .int .u8 196, .int .u8 0, .int .u8 0] 5 (5, 5 + 1)) = v := ⟨_, rfl⟩
  change (Kd.int .u8).C (w2.alloc (.cells #[.int .u8 214, .int .u8 195, .int .u8 196, .int .u8 0, .int .u8 0] 5 (5, 5 + 1))) _ _ _ at hl
  change Below _ w2 (w2.alloc (.cells #[.int .u8 214, .int .u8 195, .int .u8 196, .int .u8 0, .int .u8 0] 5 (5, 5 + 1))) at hb3
  rw [hw3] at hcv hl hb3
  have HL3 := Hd.mk hl
  have HM3 := Hd.mk (And.intro (Kd.C_below HM2.out.1 hb3) HM2.out.2)
  have HG3 := Hd.mk (blk_below HG2.out hb3)
  have HB3 := Hd.mk (below_step HB2.out hb3)
  obtain ⟨gm, hgm⟩ : ∃ g, w2.heap.size = g := ⟨_, rfl⟩
  have HGM := Hd.mk hgm
  clear hl hb3 hw3 es HM2 HG2 HB2 hgm
  go_wp2_with fail
  simp only [HGM.out]
  rw [HGM.out] at HL3
  clear hcv
  refine (codes_c w3).mono ?_
  rintro e w4 ⟨rfl, hmt, hb4⟩
  obtain ⟨bm, hbm⟩ : ∃ g, w3.heap.size = g := ⟨_, rfl⟩
  rw [hbm] at hmt
  have HBM := Hd.mk hbm
  have HMT4 := Hd.mk hmt
  have HL4 := Hd.mk (Kd.C_below HL3.out hb4)
  have HM4 := Hd.mk (And.intro (Kd.C_below HM3.out.1 hb4) HM3.out.2)
  have HG4 := Hd.mk (blk_below HG3.out hb4)
  have HB4 := Hd.mk (below_step HB3.out hb4)
  clear hmt hb4 hbm HL3 HM3 HG3 HB3
  have e0 := blk_cell HG4.out 0
  have e1 := blk_cell HG4.out 1
  have e2 := blk_cell HG4.out 2
  simp at e0 e1 e2
  go_wp2_with fail
  simp only [HBM.out]
  have hE4 := HE.out.below HB4.out
  refine (origins8 (cm := cm) (c0 := c0) HM4.out.1 hE4.s hE4.di hE4.hd).mono ?_
  clear hE4
  rintro e w5 ⟨Al, cl, rfl, hol, hb5⟩
  have HOL5 := Hd.mk (OO.C hol rfl)
  have HMT5 := Hd.mk (HMT4.out.below hb5)
  have HL5 := Hd.mk (Kd.C_below HL4.out hb5)
  have HB5 := Hd.mk (below_step HB4.out hb5)
  clear hol hb5 HMT4 HL4 HM4 HG4 HB4 e0 e1 e2 HE HO
  go_wp2_with fail
  refine wp_loop_rounds 2 ?_
  rw [rounds_succ]
  have hcl := HOL5.out.2
  go_wp2_with fail
  refine (encoded8 HOL5.out.1 hcl HMT5.out).mono ?_
  rintro e w6 ⟨Ae, ce, rfl, hoe, hb6⟩
  obtain ⟨ae, hae, _⟩ := Kd.at_int (OB.C hoe rfl).1 0 (by omega) (by omega)
  subst hae
  obtain ⟨c7, w7, hrun7, ho7, hb7⟩ := appFull (c2 := ce) (Kd.C_below HL5.out hb6) (OB.C hoe rfl).1 (by omega) (by omega)
  have HR7 : Hd ((Builtin.append_ #[34, 34] 34 #[.slice (some ⟨gm, 0, none⟩) 5 5, .slice (some ae) 11 ce]).run Try.prog w6 = .ok (.slice (some ⟨w6.heap.size, 0, none⟩) 16 c7) w7) := ⟨hrun7⟩
  have HO7 : Hd (OB w7 W.heap.size (.slice (some ⟨w6.heap.size, 0, none⟩) 16 c7) delta8) := ⟨own_weaken ho7 (Nat.le_trans HB5.out.size hb6.size)⟩
  have HB7 := Hd.mk (below_step (below_step HB5.out hb6) hb7)
  obtain ⟨A7, hA7⟩ : ∃ A : Option Addr, A = some ⟨w6.heap.size, 0, none⟩ := ⟨_, rfl⟩
  rw [← hA7] at HR7 HO7
  clear hoe hb6 hrun7 ho7 hb7 HL5 HMT5 HB5 hA7
  have hr7 := HR7.out
  go_wp2_with fail
  all_goals
    clear hr7 HR7
    rw [rounds_succ]
    go_wp2_with fail
    go_ret2
    exact ⟨A7, c7, rfl, HO7.out, HB7.out⟩
end Go.Proofs.Ytmfnjmecnhagmaa
