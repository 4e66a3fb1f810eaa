/- edit: lend. (Written by lendgen.py out of Le.src.) -/
import Derived.Test.YtemlbjpefomboaaLt
import Derived.Test.YtemlbjpefomboaaRw
namespace Go.Proofs.Ytemlbjpefomboaa
open Go.RowKit Go.Shelf Go.Proofs.YtemlbjpefomboaaW.PrintWords Go.Proofs.YtemlbjpefomboaaW.PrintLast Go.Proofs.YtemlbjpefomboaaW.PrintMore Go.Proofs.Ytemlbjpefomboaa.Pr
set_option linter.unusedVariables false
set_option linter.unusedSimpArgs false
attribute [-go_sem] Builtin.append_
set_option maxRecDepth 100000 in
set_option maxHeartbeats 16000000 in
theorem lend_c (A0 : Option Addr) (c0 : Nat) (st : List S80) (A1 : Option Addr) (c1 : Nat) (d : List Int) (A2 : Option Addr) (c2 : Nat) (x : List Int) (w : World) (hE : EdC w A0 c0 st A1 c1 d A2 c2 x) (hsl : st.length ≤ 5864062014634) (hdl : d.length ≤ 140737488351232) (hxl : x.length ≤ 140737488351232) :
    Calls Try.prog 23 #[EdV A0 st.length c0 A1 d.length c1 A2 x.length c2] w fun e w' => ∃ B0 e0 B1 e1 B2 e2, e = .returned (EdV B0 st.length e0 B1 d.length e1 B2 x.length e2) ∧ Lent w' B0 e0 st B1 e1 d B2 e2 x ∧ Below w.heap.size w w' := by
  unfold EdV
  have hb0 : Below w.heap.size w ((w.alloc (.cells #[.slice A0 st.length c0, .slice A1 d.length c1, .slice A2 x.length c2] 28)).alloc (.cells #[.slice none 0 0, .slice none 0 0, .slice none 0 0] 28)) := ((Below.refl _ _).alloc (Nat.le_refl _) _).alloc (by simp) _
  have hY : ((w.alloc (.cells #[.slice A0 st.length c0, .slice A1 d.length c1, .slice A2 x.length c2] 28)).alloc (.cells #[.slice none 0 0, .slice none 0 0, .slice none 0 0] 28)).heap[w.heap.size]? = some (.cells #[.slice A0 st.length c0, .slice A1 d.length c1, .slice A2 x.length c2] 28 (0, 0)) := blk_alloc (blk_new w _) _
  have hT : ((w.alloc (.cells #[.slice A0 st.length c0, .slice A1 d.length c1, .slice A2 x.length c2] 28)).alloc (.cells #[.slice none 0 0, .slice none 0 0, .slice none 0 0] 28)).heap[w.heap.size + 1]? = some (.cells #[.slice none 0 0, .slice none 0 0, .slice none 0 0] 28 (0, 0)) := by
    have := blk_new (w.alloc (.cells #[.slice A0 st.length c0, .slice A1 d.length c1, .slice A2 x.length c2] 28)) (.cells #[.slice none 0 0, .slice none 0 0, .slice none 0 0] 28)
    rwa [World.size_alloc] at this
  obtain ⟨v6, w1, hrun1, ho1, hg1, _, _⟩ := run_app (P := Try.prog) ((w.alloc (.cells #[.slice A0 st.length c0, .slice A1 d.length c1, .slice A2 x.length c2] 28)).alloc (.cells #[.slice none 0 0, .slice none 0 0, .slice none 0 0] 28)) w.heap.size 26 26 80 _ 3 24 elt80 (.slice none 0 0) 0 [] (own_nil _ _ _ _) A0 st.length c0 (cells80 st) (src80 (Kd.C_below hE.s hb0)) (by omega) hb0.size
  rw [Nat.zero_add, List.nil_append] at ho1
  obtain ⟨A6, c6, rfl⟩ := own_slice ho1
  have hb1 : Below w.heap.size w w1 := hb0.grown hg1 hb0.size (fun k e => by cases e)
  have hb01 := (Below.refl _ _).grown hg1 (Nat.le_refl _) (fun k e => by cases e)
  have hY1 := blk_below hY hb01
  have hT1 := blk_below hT hb01
  have hba : Below w1.heap.size w1 (w1.alloc (.cells #[.int .i64 71, .int .i64 0, .int .i64 0, .int .i64 72, .int .i64 0, .int .i64 0] 80)) := (Below.refl _ _).alloc (Nat.le_refl _) _
  have hlit : Kd.C k80 (w1.alloc (.cells #[.int .i64 71, .int .i64 0, .int .i64 0, .int .i64 72, .int .i64 0, .int .i64 0] 80)) (some ⟨w1.heap.size, 0, none⟩) lentS.length lentS := C80_lit (l := lentS) (blk_new w1 _) (by decide)
  obtain ⟨v10, w2, hrun2, ho2, hg2, _, _⟩ := run_app (P := Try.prog) (w1.alloc (.cells #[.int .i64 71, .int .i64 0, .int .i64 0, .int .i64 72, .int .i64 0, .int .i64 0] 80)) w.heap.size 26 26 80 _ 3 24 elt80 (.slice A6 st.length c6) st.length (cells80 st) (pw_own_below ho1 hba) (some ⟨w1.heap.size, 0, none⟩) 2 2 (cells80 lentS) (src80 hlit) (by omega) (Nat.le_trans hb1.size hba.size)
  rw [show cells80 st ++ cells80 lentS = cells80 (st ++ lentS) from (List.flatMap_append ..).symm] at ho2
  obtain ⟨A10, c10, rfl⟩ := own_slice ho2
  have hcs := own_le ho2
  have hb2 : Below w.heap.size w w2 := (hb1.alloc hb1.size _).grown hg2 (Nat.le_trans hb1.size hba.size) (own_base (pw_own_below ho1 hba))
  have hne1 := own_ne (pw_own_below ho1 hba) (blk_below hY1 hba) (by decide)
  have hne2 := own_ne (pw_own_below ho1 hba) (blk_below hT1 hba) (by decide)
  have hY2 := blk_grown (blk_below hY1 hba) hg2 hne1
  have hT2 := blk_grown (blk_below hT1 hba) hg2 hne2
  have hbd := Below.drew' w2
  have HE2 : Hd (EdC w2.drew A0 c0 st A1 c1 d A2 c2 x) := ⟨(hE.below hb2).below hbd⟩
  have HBb : Hd (Below w.heap.size w w2.drew) := ⟨below_step hb2 hbd⟩
  have hYd : w2.drew.heap[w.heap.size]? = some (.cells #[.slice A0 st.length c0, .slice A1 d.length c1, .slice A2 x.length c2] 28 (0, 0)) := hY2
  have cb0 : w2.drew.cell? ⟨w.heap.size, 0, none⟩ = some (.slice A0 st.length c0) := (blk_cell hYd 0).trans rfl
  have cb1 : w2.drew.cell? ⟨w.heap.size, 1, none⟩ = some (.slice A1 d.length c1) := (blk_cell hYd 1).trans rfl
  have cb2 : w2.drew.cell? ⟨w.heap.size, 2, none⟩ = some (.slice A2 x.length c2) := (blk_cell hYd 2).trans rfl
  have HT2 : Hd (w2.drew.heap[w.heap.size + 1]? = some (.cells #[.slice none 0 0, .slice none 0 0, .slice none 0 0] 28 (0, 0))) := ⟨hT2⟩
  have HS2 : Hd (w2.drew.ownsRow w.heap.size 80 3 (.slice A10 (st.length + 2) c10) (st.length + 2) (cells80 (st ++ lentS))) := ⟨pw_own_below ho2 hbd⟩
  clear hE hb0 hY hT ho1 hg1 hb1 hb01 hY1 hT1 hba hlit ho2 hg2 hb2 hne1 hne2 hY2 hT2 hbd hYd
  go_enter Try.func23, Try.ntmps23
  have d0 := cb0
  have d1 := cb1
  have d2 := cb2
  clear cb0 cb1 cb2
  have hcs1 : st.length ≤ c10 := by omega
  go_wp2_with fail
  have cb0 := d0
  have cb1 := d1
  have cb2 := d2
  clear d0 d1 d2 hrun1 hrun2
  refine start_ (n := 25) (S := fun w' => w'.cell? ⟨w.heap.size, 0, none⟩ = some (.slice A0 st.length c0) ∧ w'.cell? ⟨w.heap.size, 1, none⟩ = some (.slice A1 d.length c1) ∧ w'.cell? ⟨w.heap.size, 2, none⟩ = some (.slice A2 x.length c2)) (ds := [24]) #[F,F,F,F,F,F,F,F,F,F,F,F,F,F,F,F,F,F,F,F,F,F,F,F,F] (by kernel_rfl) rfl rfl ⟨cb0, cb1, cb2⟩ (fun hHeld => ?_)
  generalize w2.drew = wb at hHeld HE2 HT2 HS2 HBb cb0 cb1 cb2 ⊢
  have HB0 : Hd (Below wb.heap.size wb wb) := ⟨Below.refl _ _⟩
  have HR0 : Hd (Rw wb wb.heap.size []) := ⟨Rw.nil _ _⟩
  refine pure_ (i := 0) (N := some 11) (v := ?_) (a' := ?_) #[T,F,F,F,F,F,F,F,F,F,F,F,F,F,F,F,F,F,F,F,F,F,F,F,F] rfl rfl (by kernel_rfl) (fun _ _ _ h => h) (Or.inl ⟨by rfl, ?_⟩) ?_ ?_
  rotate_left
  · intro w'
    go_simp
    with_reducible rfl
  rotate_left
  · go_simp
    rfl
  refine pure_ (i := 1) (N := some 12) (v := ?_) (a' := ?_) #[T,T,F,F,F,F,F,F,F,F,F,F,F,F,F,F,F,F,F,F,F,F,F,F,F] rfl rfl (by kernel_rfl) (fun _ _ _ h => h) (Or.inl ⟨by rfl, ?_⟩) ?_ ?_
  rotate_left
  · intro w'
    go_simp
    with_reducible rfl
  rotate_left
  · go_simp
    rfl
  refine pure_ (i := 5) (N := some 16) (v := ?_) (a' := ?_) #[T,T,F,F,F,T,F,F,F,F,F,F,F,F,F,F,F,F,F,F,F,F,F,F,F] rfl rfl (by kernel_rfl) (fun _ _ _ h => h) (Or.inl ⟨by rfl, ?_⟩) ?_ ?_
  rotate_left
  · intro w'
    go_simp
    with_reducible rfl
  rotate_left
  · go_simp
    rfl
  refine pure_ (i := 10) (N := some 21) (v := ?_) (a' := ?_) #[T,T,F,F,F,T,F,F,F,F,T,F,F,F,F,F,F,F,F,F,F,F,F,F,F] rfl rfl (by kernel_rfl) (fun _ _ _ h => h) (Or.inl ⟨by rfl, ?_⟩) ?_ ?_
  rotate_left
  · intro w'
    go_simp
    with_reducible rfl
  rotate_left
  · go_simp
    rfl
  refine pure_ (i := 14) (N := some 25) (v := ?_) (a' := ?_) #[T,T,F,F,F,T,F,F,F,F,T,F,F,F,T,F,F,F,F,F,F,F,F,F,F] rfl rfl (by kernel_rfl) (fun _ _ _ h => h) (Or.inl ⟨by rfl, ?_⟩) ?_ ?_
  rotate_left
  · intro w'
    go_simp
    with_reducible rfl
  rotate_left
  · go_simp
    rfl
  refine pure_ (i := 19) (N := some 30) (v := ?_) (a' := ?_) #[T,T,F,F,F,T,F,F,F,F,T,F,F,F,T,F,F,F,F,T,F,F,F,F,F] rfl rfl (by kernel_rfl) (fun _ _ _ h => h) (Or.inl ⟨by rfl, ?_⟩) ?_ ?_
  rotate_left
  · intro w'
    go_simp
    with_reducible rfl
  rotate_left
  · go_simp
    rfl
  refine take_ (i := 2) (N := some 13) (v := ?_) (a' := ?_) #[T,T,T,F,F,T,F,F,F,F,T,F,F,F,T,F,F,F,F,T,F,F,F,F,F] rfl rfl (by kernel_rfl) (fun _ _ _ h => h) (Or.inl ⟨by rfl, ?_⟩) hHeld ?_ ?_
  rotate_left
  · rintro w' ⟨s0, s1, s2⟩
    go_simp
    with_reducible rfl
  rotate_left
  · go_simp
    rfl
  refine pure_ (i := 3) (N := some 14) (v := ?_) (a' := ?_) #[T,T,T,T,F,T,F,F,F,F,T,F,F,F,T,F,F,F,F,T,F,F,F,F,F] rfl rfl (by kernel_rfl) (fun _ _ _ h => h) (Or.inl ⟨by rfl, ?_⟩) ?_ ?_
  rotate_left
  · intro w'
    go_simp
    with_reducible rfl
  rotate_left
  · go_simp
    rfl
  refine pure_ (i := 4) (N := some 15) (v := ?_) (a' := ?_) #[T,T,T,T,T,T,F,F,F,F,T,F,F,F,T,F,F,F,F,T,F,F,F,F,F] rfl rfl (by kernel_rfl) (fun _ _ _ h => h) (Or.inl ⟨by rfl, ?_⟩) ?_ ?_
  rotate_left
  · intro w'
    go_simp
    with_reducible rfl
  rotate_left
  · go_simp
    rfl
  refine take_ (i := 6) (N := some 17) (v := ?_) (a' := ?_) #[T,T,T,T,T,T,T,F,F,F,T,F,F,F,T,F,F,F,F,T,F,F,F,F,F] rfl rfl (by kernel_rfl) (fun _ _ _ h => h) (Or.inl ⟨by rfl, ?_⟩) hHeld ?_ ?_
  rotate_left
  · rintro w' ⟨s0, s1, s2⟩
    go_simp
    with_reducible rfl
  rotate_left
  · go_simp
    rfl
  refine take_ (i := 11) (N := some 22) (v := ?_) (a' := ?_) #[T,T,T,T,T,T,T,F,F,F,T,T,F,F,T,F,F,F,F,T,F,F,F,F,F] rfl rfl (by kernel_rfl) (fun _ _ _ h => h) (Or.inl ⟨by rfl, ?_⟩) hHeld ?_ ?_
  rotate_left
  · rintro w' ⟨s0, s1, s2⟩
    go_simp
    with_reducible rfl
  rotate_left
  · go_simp
    rfl
  refine pure_ (i := 12) (N := some 23) (v := ?_) (a' := ?_) #[T,T,T,T,T,T,T,F,F,F,T,T,T,F,T,F,F,F,F,T,F,F,F,F,F] rfl rfl (by kernel_rfl) (fun _ _ _ h => h) (Or.inl ⟨by rfl, ?_⟩) ?_ ?_
  rotate_left
  · intro w'
    go_simp
    with_reducible rfl
  rotate_left
  · go_simp
    rfl
  refine take_ (i := 15) (N := some 26) (v := ?_) (a' := ?_) #[T,T,T,T,T,T,T,F,F,F,T,T,T,F,T,T,F,F,F,T,F,F,F,F,F] rfl rfl (by kernel_rfl) (fun _ _ _ h => h) (Or.inl ⟨by rfl, ?_⟩) hHeld ?_ ?_
  rotate_left
  · rintro w' ⟨s0, s1, s2⟩
    go_simp
    with_reducible rfl
  rotate_left
  · go_simp
    rfl
  refine take_ (i := 20) (N := some 31) (v := ?_) (a' := ?_) #[T,T,T,T,T,T,T,F,F,F,T,T,T,F,T,T,F,F,F,T,T,F,F,F,F] rfl rfl (by kernel_rfl) (fun _ _ _ h => h) (Or.inl ⟨by rfl, ?_⟩) hHeld ?_ ?_
  rotate_left
  · rintro w' ⟨s0, s1, s2⟩
    go_simp
    with_reducible rfl
  rotate_left
  · go_simp
    rfl
  refine pure_ (i := 21) (N := some 32) (v := ?_) (a' := ?_) #[T,T,T,T,T,T,T,F,F,F,T,T,T,F,T,T,F,F,F,T,T,T,F,F,F] rfl rfl (by kernel_rfl) (fun _ _ _ h => h) (Or.inl ⟨by rfl, ?_⟩) ?_ ?_
  rotate_left
  · intro w'
    go_simp
    with_reducible rfl
  rotate_left
  · go_simp
    rfl
  refine three_ (i := 7) (j := 8) (k := 17) (Ni := some 18) (Nj := some 19) (Nk := some 28) #[T,T,T,T,T,T,T,T,F,F,T,T,T,F,T,T,F,F,F,T,T,T,F,F,F] #[T,T,T,T,T,T,T,F,T,F,T,T,T,F,T,T,F,F,F,T,T,T,F,F,F] #[T,T,T,T,T,T,T,F,F,F,T,T,T,F,T,T,F,T,F,T,T,T,F,F,F] rfl rfl rfl rfl rfl rfl (by kernel_rfl) (by decide) (by decide) (by decide) (fun K hK => ?_) (fun K hK => ?_) (fun K hK => ?_)
  · skip
    obtain ⟨v18, wv1, hrun18, hbn, hrn⟩ := HR0.out.app0 (c := c1) HB0.out.size 18 (Kd.C_below HE2.out.di HB0.out) hdl
    obtain ⟨A18, c18, hv18⟩ : ∃ A c, v18 = .slice A d.length c := own_slice (hrn.own _ List.mem_cons_self)
    subst hv18
    refine value_ (w1 := wv1) (v := .slice A18 d.length c18) (by rfl) rfl ?_ ?_
    · (go_simp; first | done | (rw [hrun18]; rfl))
    have HB1 := Hd.mk (below_step HB0.out hbn)
    have HR1 : Hd (Rw wv1 wb.heap.size [⟨18, .slice A18 d.length c18, d⟩]) := ⟨hrn.sub (by simp)⟩
    clear hbn hrn hrun18
    refine hK.out _ _ ⟨pw_cell_below HB1.out cb0, pw_cell_below HB1.out cb1, pw_cell_below HB1.out cb2⟩ (fun hHeld => ?_)
    clear hK K
    refine norm_ (a' := ?_) ?_ ?_
    rotate_left
    · show Act.put _ (some 18) _ = _
      go_simp
      rfl
    refine two_ (i := 8) (j := 17) (Ni := some 19) (Nj := some 28) #[T,T,T,T,T,T,T,T,T,F,T,T,T,F,T,T,F,F,F,T,T,T,F,F,F] #[T,T,T,T,T,T,T,T,F,F,T,T,T,F,T,T,F,T,F,T,T,T,F,F,F] rfl rfl rfl rfl (by kernel_rfl) (by decide) (by decide) (fun K hK => ?_) (fun K hK => ?_)
    · skip
      refine value_ (w1 := ?_) (v := ?_) (by rfl) rfl ?_ ?_
      rotate_left 2
      · go_simp
        constructor
        · rfl
        rfl
      have hbn : Below wb.heap.size wb (wv1.alloc (.cells #[.int .u8 73, .int .u8 74] 5)) := HB1.out.alloc HB1.out.size _
      obtain ⟨g19, hg19⟩ : ∃ g, g = wv1.heap.size := ⟨_, rfl⟩
      have hrn : Rw (wv1.alloc (.cells #[.int .u8 73, .int .u8 74] 5)) wb.heap.size (⟨19, .slice (some ⟨g19, 0, none⟩) 2 2, [73, 74]⟩ :: [⟨18, .slice A18 d.length c18, d⟩]) := by rw [hg19]; exact HR1.out.lit HB1.out.size 19 [73, 74] (by decide)
      obtain ⟨wv2, hw2⟩ : ∃ w, (wv1.alloc (.cells #[.int .u8 73, .int .u8 74] 5)) = w := ⟨_, rfl⟩
      rw [hw2] at hbn hrn ⊢
      rw [← hg19]
      have HB2 := Hd.mk hbn
      have HR2 : Hd (Rw wv2 wb.heap.size [⟨18, .slice A18 d.length c18, d⟩, ⟨19, .slice (some ⟨g19, 0, none⟩) 2 2, [73, 74]⟩]) := ⟨hrn.sub (by simp)⟩
      clear hbn hrn hw2 hg19
      refine hK.out _ _ ⟨pw_cell_below HB2.out cb0, pw_cell_below HB2.out cb1, pw_cell_below HB2.out cb2⟩ (fun hHeld => ?_)
      clear hK K
      refine norm_ (a' := ?_) ?_ ?_
      rotate_left
      · show Act.put _ (some 19) _ = _
        go_simp
        rfl
      refine two_ (i := 9) (j := 17) (Ni := some 20) (Nj := some 28) #[T,T,T,T,T,T,T,T,T,T,T,T,T,F,T,T,F,F,F,T,T,T,F,F,F] #[T,T,T,T,T,T,T,T,T,F,T,T,T,F,T,T,F,T,F,T,T,T,F,F,F] rfl rfl rfl rfl (by kernel_rfl) (by decide) (by decide) (fun K hK => ?_) (fun K hK => ?_)
      · skip
        obtain ⟨v20, wv3, hrun20, hbn, hrn⟩ := (HR2.out.sub (rows' := ⟨18, .slice A18 d.length c18, d⟩ :: ⟨19, .slice (some ⟨g19, 0, none⟩) 2 2, [73, 74]⟩ :: []) (by simp)).app ⟨18, .slice A18 d.length c18, d⟩ ⟨19, .slice (some ⟨g19, 0, none⟩) 2 2, [73, 74]⟩ (by simp) (by simp) HB2.out HB2.out.size 20 (A := some ⟨g19, 0, none⟩) (c := 2) rfl (by simp; omega)
        obtain ⟨A20, c20, hv20⟩ : ∃ A c, v20 = .slice A (d.length + 2) c := by have := own_slice (hrn.own _ List.mem_cons_self); simpa using this
        subst hv20
        have hcap20 : d.length + 2 ≤ c20 := by have := own_le (hrn.own _ List.mem_cons_self); simpa using this
        have hcap20b : d.length ≤ c20 := by omega
        have hrun20' : (Builtin.append_ #[25, 25] 25 #[.slice A18 d.length c18, .slice (some ⟨g19, 0, none⟩) 2 2]).run Try.prog wv2 = .ok (.slice A20 (d.length + 2) c20) wv3 := hrun20
        refine value_ (w1 := wv3) (v := .slice A20 (d.length + 2) c20) (by rfl) rfl ?_ ?_
        · (go_simp; first | done | (rw [hrun20']; rfl))
        have HB3 := Hd.mk hbn
        have HR3 : Hd (Rw wv3 wb.heap.size [⟨19, .slice (some ⟨g19, 0, none⟩) 2 2, [73, 74]⟩, ⟨20, .slice A20 (d.length + 2) c20, d ++ [73, 74]⟩]) := ⟨hrn.sub (by simp)⟩
        clear hbn hrn hrun20 hrun20'
        refine hK.out _ _ ⟨pw_cell_below HB3.out cb0, pw_cell_below HB3.out cb1, pw_cell_below HB3.out cb2⟩ (fun hHeld => ?_)
        clear hK K
        refine norm_ (a' := ?_) ?_ ?_
        rotate_left
        · show Act.put _ (some 20) _ = _
          go_simp
          rfl
        refine pure_ (i := 13) (N := some 24) (v := ?_) (a' := ?_) #[T,T,T,T,T,T,T,T,T,T,T,T,T,T,T,T,F,F,F,T,T,T,F,F,F] rfl rfl (by kernel_rfl) (fun _ _ _ h => h) (Or.inl ⟨by rfl, ?_⟩) ?_ ?_
        rotate_left
        · intro w'
          go_simp
          with_reducible rfl
        rotate_left
        · go_simp
          rfl
        refine two_ (i := 16) (j := 17) (Ni := some 27) (Nj := some 28) #[T,T,T,T,T,T,T,T,T,T,T,T,T,T,T,T,T,F,F,T,T,T,F,F,F] #[T,T,T,T,T,T,T,T,T,T,T,T,T,T,T,T,F,T,F,T,T,T,F,F,F] rfl rfl rfl rfl (by kernel_rfl) (by decide) (by decide) (fun K hK => ?_) (fun K hK => ?_)
        · skip
          obtain ⟨v27, wv4, hrun27, hbn, hrn⟩ := HR3.out.app0 (c := c2) HB3.out.size 27 (Kd.C_below HE2.out.ex HB3.out) hxl
          obtain ⟨A27, c27, hv27⟩ : ∃ A c, v27 = .slice A x.length c := own_slice (hrn.own _ List.mem_cons_self)
          subst hv27
          refine value_ (w1 := wv4) (v := .slice A27 x.length c27) (by rfl) rfl ?_ ?_
          · (go_simp; first | done | (rw [hrun27]; rfl))
          have HB4 := Hd.mk (below_step HB3.out hbn)
          have HR4 : Hd (Rw wv4 wb.heap.size [⟨19, .slice (some ⟨g19, 0, none⟩) 2 2, [73, 74]⟩, ⟨20, .slice A20 (d.length + 2) c20, d ++ [73, 74]⟩, ⟨27, .slice A27 x.length c27, x⟩]) := ⟨hrn.sub (by simp)⟩
          clear hbn hrn hrun27
          refine hK.out _ _ ⟨pw_cell_below HB4.out cb0, pw_cell_below HB4.out cb1, pw_cell_below HB4.out cb2⟩ (fun hHeld => ?_)
          clear hK K
          refine norm_ (a' := ?_) ?_ ?_
          rotate_left
          · show Act.put _ (some 27) _ = _
            go_simp
            rfl
          refine one_ (i := 17) (N := some 28) #[T,T,T,T,T,T,T,T,T,T,T,T,T,T,T,T,T,T,F,T,T,T,F,F,F] rfl rfl (by kernel_rfl) (by decide) (fun K hK => ?_)
          refine value_ (w1 := ?_) (v := ?_) (by rfl) rfl ?_ ?_
          rotate_left 2
          · go_simp
            constructor
            · rfl
            rfl
          have hbn : Below wb.heap.size wb (wv4.alloc (.cells #[.int .u8 75, .int .u8 76] 5)) := HB4.out.alloc HB4.out.size _
          obtain ⟨g28, hg28⟩ : ∃ g, g = wv4.heap.size := ⟨_, rfl⟩
          have hrn : Rw (wv4.alloc (.cells #[.int .u8 75, .int .u8 76] 5)) wb.heap.size (⟨28, .slice (some ⟨g28, 0, none⟩) 2 2, [75, 76]⟩ :: [⟨19, .slice (some ⟨g19, 0, none⟩) 2 2, [73, 74]⟩, ⟨20, .slice A20 (d.length + 2) c20, d ++ [73, 74]⟩, ⟨27, .slice A27 x.length c27, x⟩]) := by rw [hg28]; exact HR4.out.lit HB4.out.size 28 [75, 76] (by decide)
          obtain ⟨wv5, hw5⟩ : ∃ w, (wv4.alloc (.cells #[.int .u8 75, .int .u8 76] 5)) = w := ⟨_, rfl⟩
          rw [hw5] at hbn hrn ⊢
          rw [← hg28]
          have HB5 := Hd.mk hbn
          have HR5 : Hd (Rw wv5 wb.heap.size [⟨19, .slice (some ⟨g19, 0, none⟩) 2 2, [73, 74]⟩, ⟨20, .slice A20 (d.length + 2) c20, d ++ [73, 74]⟩, ⟨27, .slice A27 x.length c27, x⟩, ⟨28, .slice (some ⟨g28, 0, none⟩) 2 2, [75, 76]⟩]) := ⟨hrn.sub (by simp)⟩
          clear hbn hrn hw5 hg28
          refine hK.out _ _ ⟨pw_cell_below HB5.out cb0, pw_cell_below HB5.out cb1, pw_cell_below HB5.out cb2⟩ (fun hHeld => ?_)
          clear hK K
          refine norm_ (a' := ?_) ?_ ?_
          rotate_left
          · show Act.put _ (some 28) _ = _
            go_simp
            rfl
          refine one_ (i := 18) (N := some 29) #[T,T,T,T,T,T,T,T,T,T,T,T,T,T,T,T,T,T,T,T,T,T,F,F,F] rfl rfl (by kernel_rfl) (by decide) (fun K hK => ?_)
          obtain ⟨v29, wv6, hrun29, hbn, hrn⟩ := (HR5.out.sub (rows' := ⟨27, .slice A27 x.length c27, x⟩ :: ⟨28, .slice (some ⟨g28, 0, none⟩) 2 2, [75, 76]⟩ :: [⟨19, .slice (some ⟨g19, 0, none⟩) 2 2, [73, 74]⟩, ⟨20, .slice A20 (d.length + 2) c20, d ++ [73, 74]⟩]) (by simp)).app ⟨27, .slice A27 x.length c27, x⟩ ⟨28, .slice (some ⟨g28, 0, none⟩) 2 2, [75, 76]⟩ (by simp) (by simp) HB5.out HB5.out.size 29 (A := some ⟨g28, 0, none⟩) (c := 2) rfl (by simp; omega)
          obtain ⟨A29, c29, hv29⟩ : ∃ A c, v29 = .slice A (x.length + 2) c := by have := own_slice (hrn.own _ List.mem_cons_self); simpa using this
          subst hv29
          have hcap29 : x.length + 2 ≤ c29 := by have := own_le (hrn.own _ List.mem_cons_self); simpa using this
          have hcap29b : x.length ≤ c29 := by omega
          have hrun29' : (Builtin.append_ #[25, 25] 25 #[.slice A27 x.length c27, .slice (some ⟨g28, 0, none⟩) 2 2]).run Try.prog wv5 = .ok (.slice A29 (x.length + 2) c29) wv6 := hrun29
          refine value_ (w1 := wv6) (v := .slice A29 (x.length + 2) c29) (by rfl) rfl ?_ ?_
          · (go_simp; first | done | (rw [hrun29']; rfl))
          have HB6 := Hd.mk hbn
          have HR6 : Hd (Rw wv6 wb.heap.size [⟨19, .slice (some ⟨g19, 0, none⟩) 2 2, [73, 74]⟩, ⟨20, .slice A20 (d.length + 2) c20, d ++ [73, 74]⟩, ⟨28, .slice (some ⟨g28, 0, none⟩) 2 2, [75, 76]⟩, ⟨29, .slice A29 (x.length + 2) c29, x ++ [75, 76]⟩]) := ⟨hrn.sub (by simp)⟩
          clear hbn hrn hrun29 hrun29'
          refine hK.out _ _ ⟨pw_cell_below HB6.out cb0, pw_cell_below HB6.out cb1, pw_cell_below HB6.out cb2⟩ (fun hHeld => ?_)
          clear hK K
          refine norm_ (a' := ?_) ?_ ?_
          rotate_left
          · show Act.put _ (some 29) _ = _
            go_simp
            rfl
          refine pure_ (i := 22) (N := some 33) (v := ?_) (a' := ?_) #[T,T,T,T,T,T,T,T,T,T,T,T,T,T,T,T,T,T,T,T,T,T,T,F,F] rfl rfl (by kernel_rfl) (fun _ _ _ h => h) (Or.inl ⟨by rfl, ?_⟩) ?_ ?_
          rotate_left
          · intro w'
            go_simp
            with_reducible rfl
          rotate_left
          · go_simp
            rfl
          refine pure_ (i := 23) (N := some 34) (v := ?_) (a' := ?_) #[T,T,T,T,T,T,T,T,T,T,T,T,T,T,T,T,T,T,T,T,T,T,T,T,F] rfl rfl (by kernel_rfl) (fun _ _ _ h => h) (Or.inl ⟨by rfl, ?_⟩) ?_ ?_
          rotate_left
          · intro w'
            go_simp
            with_reducible rfl
          rotate_left
          · go_simp
            rfl
          have q0 : wv6.cell? ⟨w.heap.size + 1, 0, none⟩ = some (.slice none 0 0) := (blk_cell (blk_below HT2.out HB6.out) 0).trans rfl
          have f0 := blk_frozen (blk_below HT2.out HB6.out) 0
          have q1 : wv6.cell? ⟨w.heap.size + 1, 1, none⟩ = some (.slice none 0 0) := (blk_cell (blk_below HT2.out HB6.out) 1).trans rfl
          have f1 := blk_frozen (blk_below HT2.out HB6.out) 1
          have q2 : wv6.cell? ⟨w.heap.size + 1, 2, none⟩ = some (.slice none 0 0) := (blk_cell (blk_below HT2.out HB6.out) 2).trans rfl
          have f2 := blk_frozen (blk_below HT2.out HB6.out) 2
          refine last_ (i := 24) (N := none) #[T,T,T,T,T,T,T,T,T,T,T,T,T,T,T,T,T,T,T,T,T,T,T,T,T] rfl rfl (by kernel_rfl) (by decide) (fun K hK => ?_)
          refine skip_ (w1 := ?_) (by rfl) rfl ?_ ?_
          rotate_left
          · go_simp
            rfl
          refine hK.out _ _ ?_
          clear hK K
          refine done_ (by kernel_rfl) ?_
          clear hHeld cb0 cb1 cb2 q0 q1 q2 f0 f1 f2
          go_wp2
          obtain ⟨h3, hl3, hb3⟩ := lend_fin (blk_below HT2.out HB6.out) (Nat.le_succ _) (below_step HBb.out HB6.out) (pw_own_below HS2.out HB6.out) (HR6.out.own ⟨20, .slice A20 (d.length + 2) c20, d ++ [73, 74]⟩ (by simp)) (HR6.out.own ⟨29, .slice A29 (x.length + 2) c29, x ++ [75, 76]⟩ (by simp)) hcs hcap20 hcap29 (.slice A10 st.length c10) (.slice A20 d.length c20) (.slice A29 x.length c29)
          refine bodyPost_ret (results_cell_row rfl _ _ (w.heap.size + 1) 28 _ (0, 0) _ rfl h3 Try.underlying28 rfl (by kernel_rfl)) rfl ?_
          exact ⟨_, _, _, _, _, _, rfl, hl3, hb3⟩
        skip
        refine value_ (w1 := ?_) (v := ?_) (by rfl) rfl ?_ ?_
        rotate_left 2
        · go_simp
          constructor
          · rfl
          rfl
        have hbn : Below wb.heap.size wb (wv3.alloc (.cells #[.int .u8 75, .int .u8 76] 5)) := HB3.out.alloc HB3.out.size _
        obtain ⟨g28, hg28⟩ : ∃ g, g = wv3.heap.size := ⟨_, rfl⟩
        have hrn : Rw (wv3.alloc (.cells #[.int .u8 75, .int .u8 76] 5)) wb.heap.size (⟨28, .slice (some ⟨g28, 0, none⟩) 2 2, [75, 76]⟩ :: [⟨19, .slice (some ⟨g19, 0, none⟩) 2 2, [73, 74]⟩, ⟨20, .slice A20 (d.length + 2) c20, d ++ [73, 74]⟩]) := by rw [hg28]; exact HR3.out.lit HB3.out.size 28 [75, 76] (by decide)
        obtain ⟨wv4, hw4⟩ : ∃ w, (wv3.alloc (.cells #[.int .u8 75, .int .u8 76] 5)) = w := ⟨_, rfl⟩
        rw [hw4] at hbn hrn ⊢
        rw [← hg28]
        have HB4 := Hd.mk hbn
        have HR4 : Hd (Rw wv4 wb.heap.size [⟨19, .slice (some ⟨g19, 0, none⟩) 2 2, [73, 74]⟩, ⟨20, .slice A20 (d.length + 2) c20, d ++ [73, 74]⟩, ⟨28, .slice (some ⟨g28, 0, none⟩) 2 2, [75, 76]⟩]) := ⟨hrn.sub (by simp)⟩
        clear hbn hrn hw4 hg28
        refine hK.out _ _ ⟨pw_cell_below HB4.out cb0, pw_cell_below HB4.out cb1, pw_cell_below HB4.out cb2⟩ (fun hHeld => ?_)
        clear hK K
        refine norm_ (a' := ?_) ?_ ?_
        rotate_left
        · show Act.put _ (some 28) _ = _
          go_simp
          rfl
        refine one_ (i := 16) (N := some 27) #[T,T,T,T,T,T,T,T,T,T,T,T,T,T,T,T,T,T,F,T,T,T,F,F,F] rfl rfl (by kernel_rfl) (by decide) (fun K hK => ?_)
        obtain ⟨v27, wv5, hrun27, hbn, hrn⟩ := HR4.out.app0 (c := c2) HB4.out.size 27 (Kd.C_below HE2.out.ex HB4.out) hxl
        obtain ⟨A27, c27, hv27⟩ : ∃ A c, v27 = .slice A x.length c := own_slice (hrn.own _ List.mem_cons_self)
        subst hv27
        refine value_ (w1 := wv5) (v := .slice A27 x.length c27) (by rfl) rfl ?_ ?_
        · (go_simp; first | done | (rw [hrun27]; rfl))
        have HB5 := Hd.mk (below_step HB4.out hbn)
        have HR5 : Hd (Rw wv5 wb.heap.size [⟨19, .slice (some ⟨g19, 0, none⟩) 2 2, [73, 74]⟩, ⟨20, .slice A20 (d.length + 2) c20, d ++ [73, 74]⟩, ⟨27, .slice A27 x.length c27, x⟩, ⟨28, .slice (some ⟨g28, 0, none⟩) 2 2, [75, 76]⟩]) := ⟨hrn.sub (by simp)⟩
        clear hbn hrn hrun27
        refine hK.out _ _ ⟨pw_cell_below HB5.out cb0, pw_cell_below HB5.out cb1, pw_cell_below HB5.out cb2⟩ (fun hHeld => ?_)
        clear hK K
        refine norm_ (a' := ?_) ?_ ?_
        rotate_left
        · show Act.put _ (some 27) _ = _
          go_simp
          rfl
        refine one_ (i := 18) (N := some 29) #[T,T,T,T,T,T,T,T,T,T,T,T,T,T,T,T,T,T,T,T,T,T,F,F,F] rfl rfl (by kernel_rfl) (by decide) (fun K hK => ?_)
        obtain ⟨v29, wv6, hrun29, hbn, hrn⟩ := (HR5.out.sub (rows' := ⟨27, .slice A27 x.length c27, x⟩ :: ⟨28, .slice (some ⟨g28, 0, none⟩) 2 2, [75, 76]⟩ :: [⟨19, .slice (some ⟨g19, 0, none⟩) 2 2, [73, 74]⟩, ⟨20, .slice A20 (d.length + 2) c20, d ++ [73, 74]⟩]) (by simp)).app ⟨27, .slice A27 x.length c27, x⟩ ⟨28, .slice (some ⟨g28, 0, none⟩) 2 2, [75, 76]⟩ (by simp) (by simp) HB5.out HB5.out.size 29 (A := some ⟨g28, 0, none⟩) (c := 2) rfl (by simp; omega)
        obtain ⟨A29, c29, hv29⟩ : ∃ A c, v29 = .slice A (x.length + 2) c := by have := own_slice (hrn.own _ List.mem_cons_self); simpa using this
        subst hv29
        have hcap29 : x.length + 2 ≤ c29 := by have := own_le (hrn.own _ List.mem_cons_self); simpa using this
        have hcap29b : x.length ≤ c29 := by omega
        have hrun29' : (Builtin.append_ #[25, 25] 25 #[.slice A27 x.length c27, .slice (some ⟨g28, 0, none⟩) 2 2]).run Try.prog wv5 = .ok (.slice A29 (x.length + 2) c29) wv6 := hrun29
        refine value_ (w1 := wv6) (v := .slice A29 (x.length + 2) c29) (by rfl) rfl ?_ ?_
        · (go_simp; first | done | (rw [hrun29']; rfl))
        have HB6 := Hd.mk hbn
        have HR6 : Hd (Rw wv6 wb.heap.size [⟨19, .slice (some ⟨g19, 0, none⟩) 2 2, [73, 74]⟩, ⟨20, .slice A20 (d.length + 2) c20, d ++ [73, 74]⟩, ⟨28, .slice (some ⟨g28, 0, none⟩) 2 2, [75, 76]⟩, ⟨29, .slice A29 (x.length + 2) c29, x ++ [75, 76]⟩]) := ⟨hrn.sub (by simp)⟩
        clear hbn hrn hrun29 hrun29'
        refine hK.out _ _ ⟨pw_cell_below HB6.out cb0, pw_cell_below HB6.out cb1, pw_cell_below HB6.out cb2⟩ (fun hHeld => ?_)
        clear hK K
        refine norm_ (a' := ?_) ?_ ?_
        rotate_left
        · show Act.put _ (some 29) _ = _
          go_simp
          rfl
        refine pure_ (i := 22) (N := some 33) (v := ?_) (a' := ?_) #[T,T,T,T,T,T,T,T,T,T,T,T,T,T,T,T,T,T,T,T,T,T,T,F,F] rfl rfl (by kernel_rfl) (fun _ _ _ h => h) (Or.inl ⟨by rfl, ?_⟩) ?_ ?_
        rotate_left
        · intro w'
          go_simp
          with_reducible rfl
        rotate_left
        · go_simp
          rfl
        refine pure_ (i := 23) (N := some 34) (v := ?_) (a' := ?_) #[T,T,T,T,T,T,T,T,T,T,T,T,T,T,T,T,T,T,T,T,T,T,T,T,F] rfl rfl (by kernel_rfl) (fun _ _ _ h => h) (Or.inl ⟨by rfl, ?_⟩) ?_ ?_
        rotate_left
        · intro w'
          go_simp
          with_reducible rfl
        rotate_left
        · go_simp
          rfl
        have q0 : wv6.cell? ⟨w.heap.size + 1, 0, none⟩ = some (.slice none 0 0) := (blk_cell (blk_below HT2.out HB6.out) 0).trans rfl
        have f0 := blk_frozen (blk_below HT2.out HB6.out) 0
        have q1 : wv6.cell? ⟨w.heap.size + 1, 1, none⟩ = some (.slice none 0 0) := (blk_cell (blk_below HT2.out HB6.out) 1).trans rfl
        have f1 := blk_frozen (blk_below HT2.out HB6.out) 1
        have q2 : wv6.cell? ⟨w.heap.size + 1, 2, none⟩ = some (.slice none 0 0) := (blk_cell (blk_below HT2.out HB6.out) 2).trans rfl
        have f2 := blk_frozen (blk_below HT2.out HB6.out) 2
        refine last_ (i := 24) (N := none) #[T,T,T,T,T,T,T,T,T,T,T,T,T,T,T,T,T,T,T,T,T,T,T,T,T] rfl rfl (by kernel_rfl) (by decide) (fun K hK => ?_)
        refine skip_ (w1 := ?_) (by rfl) rfl ?_ ?_
        rotate_left
        · go_simp
          rfl
        refine hK.out _ _ ?_
        clear hK K
        refine done_ (by kernel_rfl) ?_
        clear hHeld cb0 cb1 cb2 q0 q1 q2 f0 f1 f2
        go_wp2
        obtain ⟨h3, hl3, hb3⟩ := lend_fin (blk_below HT2.out HB6.out) (Nat.le_succ _) (below_step HBb.out HB6.out) (pw_own_below HS2.out HB6.out) (HR6.out.own ⟨20, .slice A20 (d.length + 2) c20, d ++ [73, 74]⟩ (by simp)) (HR6.out.own ⟨29, .slice A29 (x.length + 2) c29, x ++ [75, 76]⟩ (by simp)) hcs hcap20 hcap29 (.slice A10 st.length c10) (.slice A20 d.length c20) (.slice A29 x.length c29)
        refine bodyPost_ret (results_cell_row rfl _ _ (w.heap.size + 1) 28 _ (0, 0) _ rfl h3 Try.underlying28 rfl (by kernel_rfl)) rfl ?_
        exact ⟨_, _, _, _, _, _, rfl, hl3, hb3⟩
      skip
      refine value_ (w1 := ?_) (v := ?_) (by rfl) rfl ?_ ?_
      rotate_left 2
      · go_simp
        constructor
        · rfl
        rfl
      have hbn : Below wb.heap.size wb (wv2.alloc (.cells #[.int .u8 75, .int .u8 76] 5)) := HB2.out.alloc HB2.out.size _
      obtain ⟨g28, hg28⟩ : ∃ g, g = wv2.heap.size := ⟨_, rfl⟩
      have hrn : Rw (wv2.alloc (.cells #[.int .u8 75, .int .u8 76] 5)) wb.heap.size (⟨28, .slice (some ⟨g28, 0, none⟩) 2 2, [75, 76]⟩ :: [⟨18, .slice A18 d.length c18, d⟩, ⟨19, .slice (some ⟨g19, 0, none⟩) 2 2, [73, 74]⟩]) := by rw [hg28]; exact HR2.out.lit HB2.out.size 28 [75, 76] (by decide)
      obtain ⟨wv3, hw3⟩ : ∃ w, (wv2.alloc (.cells #[.int .u8 75, .int .u8 76] 5)) = w := ⟨_, rfl⟩
      rw [hw3] at hbn hrn ⊢
      rw [← hg28]
      have HB3 := Hd.mk hbn
      have HR3 : Hd (Rw wv3 wb.heap.size [⟨18, .slice A18 d.length c18, d⟩, ⟨19, .slice (some ⟨g19, 0, none⟩) 2 2, [73, 74]⟩, ⟨28, .slice (some ⟨g28, 0, none⟩) 2 2, [75, 76]⟩]) := ⟨hrn.sub (by simp)⟩
      clear hbn hrn hw3 hg28
      refine hK.out _ _ ⟨pw_cell_below HB3.out cb0, pw_cell_below HB3.out cb1, pw_cell_below HB3.out cb2⟩ (fun hHeld => ?_)
      clear hK K
      refine norm_ (a' := ?_) ?_ ?_
      rotate_left
      · show Act.put _ (some 28) _ = _
        go_simp
        rfl
      refine one_ (i := 9) (N := some 20) #[T,T,T,T,T,T,T,T,T,T,T,T,T,F,T,T,F,T,F,T,T,T,F,F,F] rfl rfl (by kernel_rfl) (by decide) (fun K hK => ?_)
      obtain ⟨v20, wv4, hrun20, hbn, hrn⟩ := (HR3.out.sub (rows' := ⟨18, .slice A18 d.length c18, d⟩ :: ⟨19, .slice (some ⟨g19, 0, none⟩) 2 2, [73, 74]⟩ :: [⟨28, .slice (some ⟨g28, 0, none⟩) 2 2, [75, 76]⟩]) (by simp)).app ⟨18, .slice A18 d.length c18, d⟩ ⟨19, .slice (some ⟨g19, 0, none⟩) 2 2, [73, 74]⟩ (by simp) (by simp) HB3.out HB3.out.size 20 (A := some ⟨g19, 0, none⟩) (c := 2) rfl (by simp; omega)
      obtain ⟨A20, c20, hv20⟩ : ∃ A c, v20 = .slice A (d.length + 2) c := by have := own_slice (hrn.own _ List.mem_cons_self); simpa using this
      subst hv20
      have hcap20 : d.length + 2 ≤ c20 := by have := own_le (hrn.own _ List.mem_cons_self); simpa using this
      have hcap20b : d.length ≤ c20 := by omega
      have hrun20' : (Builtin.append_ #[25, 25] 25 #[.slice A18 d.length c18, .slice (some ⟨g19, 0, none⟩) 2 2]).run Try.prog wv3 = .ok (.slice A20 (d.length + 2) c20) wv4 := hrun20
      refine value_ (w1 := wv4) (v := .slice A20 (d.length + 2) c20) (by rfl) rfl ?_ ?_
      · (go_simp; first | done | (rw [hrun20']; rfl))
      have HB4 := Hd.mk hbn
      have HR4 : Hd (Rw wv4 wb.heap.size [⟨19, .slice (some ⟨g19, 0, none⟩) 2 2, [73, 74]⟩, ⟨20, .slice A20 (d.length + 2) c20, d ++ [73, 74]⟩, ⟨28, .slice (some ⟨g28, 0, none⟩) 2 2, [75, 76]⟩]) := ⟨hrn.sub (by simp)⟩
      clear hbn hrn hrun20 hrun20'
      refine hK.out _ _ ⟨pw_cell_below HB4.out cb0, pw_cell_below HB4.out cb1, pw_cell_below HB4.out cb2⟩ (fun hHeld => ?_)
      clear hK K
      refine norm_ (a' := ?_) ?_ ?_
      rotate_left
      · show Act.put _ (some 20) _ = _
        go_simp
        rfl
      refine pure_ (i := 13) (N := some 24) (v := ?_) (a' := ?_) #[T,T,T,T,T,T,T,T,T,T,T,T,T,T,T,T,F,T,F,T,T,T,F,F,F] rfl rfl (by kernel_rfl) (fun _ _ _ h => h) (Or.inl ⟨by rfl, ?_⟩) ?_ ?_
      rotate_left
      · intro w'
        go_simp
        with_reducible rfl
      rotate_left
      · go_simp
        rfl
      refine one_ (i := 16) (N := some 27) #[T,T,T,T,T,T,T,T,T,T,T,T,T,T,T,T,T,T,F,T,T,T,F,F,F] rfl rfl (by kernel_rfl) (by decide) (fun K hK => ?_)
      obtain ⟨v27, wv5, hrun27, hbn, hrn⟩ := HR4.out.app0 (c := c2) HB4.out.size 27 (Kd.C_below HE2.out.ex HB4.out) hxl
      obtain ⟨A27, c27, hv27⟩ : ∃ A c, v27 = .slice A x.length c := own_slice (hrn.own _ List.mem_cons_self)
      subst hv27
      refine value_ (w1 := wv5) (v := .slice A27 x.length c27) (by rfl) rfl ?_ ?_
      · (go_simp; first | done | (rw [hrun27]; rfl))
      have HB5 := Hd.mk (below_step HB4.out hbn)
      have HR5 : Hd (Rw wv5 wb.heap.size [⟨19, .slice (some ⟨g19, 0, none⟩) 2 2, [73, 74]⟩, ⟨20, .slice A20 (d.length + 2) c20, d ++ [73, 74]⟩, ⟨27, .slice A27 x.length c27, x⟩, ⟨28, .slice (some ⟨g28, 0, none⟩) 2 2, [75, 76]⟩]) := ⟨hrn.sub (by simp)⟩
      clear hbn hrn hrun27
      refine hK.out _ _ ⟨pw_cell_below HB5.out cb0, pw_cell_below HB5.out cb1, pw_cell_below HB5.out cb2⟩ (fun hHeld => ?_)
      clear hK K
      refine norm_ (a' := ?_) ?_ ?_
      rotate_left
      · show Act.put _ (some 27) _ = _
        go_simp
        rfl
      refine one_ (i := 18) (N := some 29) #[T,T,T,T,T,T,T,T,T,T,T,T,T,T,T,T,T,T,T,T,T,T,F,F,F] rfl rfl (by kernel_rfl) (by decide) (fun K hK => ?_)
      obtain ⟨v29, wv6, hrun29, hbn, hrn⟩ := (HR5.out.sub (rows' := ⟨27, .slice A27 x.length c27, x⟩ :: ⟨28, .slice (some ⟨g28, 0, none⟩) 2 2, [75, 76]⟩ :: [⟨19, .slice (some ⟨g19, 0, none⟩) 2 2, [73, 74]⟩, ⟨20, .slice A20 (d.length + 2) c20, d ++ [73, 74]⟩]) (by simp)).app ⟨27, .slice A27 x.length c27, x⟩ ⟨28, .slice (some ⟨g28, 0, none⟩) 2 2, [75, 76]⟩ (by simp) (by simp) HB5.out HB5.out.size 29 (A := some ⟨g28, 0, none⟩) (c := 2) rfl (by simp; omega)
      obtain ⟨A29, c29, hv29⟩ : ∃ A c, v29 = .slice A (x.length + 2) c := by have := own_slice (hrn.own _ List.mem_cons_self); simpa using this
      subst hv29
      have hcap29 : x.length + 2 ≤ c29 := by have := own_le (hrn.own _ List.mem_cons_self); simpa using this
      have hcap29b : x.length ≤ c29 := by omega
      have hrun29' : (Builtin.append_ #[25, 25] 25 #[.slice A27 x.length c27, .slice (some ⟨g28, 0, none⟩) 2 2]).run Try.prog wv5 = .ok (.slice A29 (x.length + 2) c29) wv6 := hrun29
      refine value_ (w1 := wv6) (v := .slice A29 (x.length + 2) c29) (by rfl) rfl ?_ ?_
      · (go_simp; first | done | (rw [hrun29']; rfl))
      have HB6 := Hd.mk hbn
      have HR6 : Hd (Rw wv6 wb.heap.size [⟨19, .slice (some ⟨g19, 0, none⟩) 2 2, [73, 74]⟩, ⟨20, .slice A20 (d.length + 2) c20, d ++ [73, 74]⟩, ⟨28, .slice (some ⟨g28, 0, none⟩) 2 2, [75, 76]⟩, ⟨29, .slice A29 (x.length + 2) c29, x ++ [75, 76]⟩]) := ⟨hrn.sub (by simp)⟩
      clear hbn hrn hrun29 hrun29'
      refine hK.out _ _ ⟨pw_cell_below HB6.out cb0, pw_cell_below HB6.out cb1, pw_cell_below HB6.out cb2⟩ (fun hHeld => ?_)
      clear hK K
      refine norm_ (a' := ?_) ?_ ?_
      rotate_left
      · show Act.put _ (some 29) _ = _
        go_simp
        rfl
      refine pure_ (i := 22) (N := some 33) (v := ?_) (a' := ?_) #[T,T,T,T,T,T,T,T,T,T,T,T,T,T,T,T,T,T,T,T,T,T,T,F,F] rfl rfl (by kernel_rfl) (fun _ _ _ h => h) (Or.inl ⟨by rfl, ?_⟩) ?_ ?_
      rotate_left
      · intro w'
        go_simp
        with_reducible rfl
      rotate_left
      · go_simp
        rfl
      refine pure_ (i := 23) (N := some 34) (v := ?_) (a' := ?_) #[T,T,T,T,T,T,T,T,T,T,T,T,T,T,T,T,T,T,T,T,T,T,T,T,F] rfl rfl (by kernel_rfl) (fun _ _ _ h => h) (Or.inl ⟨by rfl, ?_⟩) ?_ ?_
      rotate_left
      · intro w'
        go_simp
        with_reducible rfl
      rotate_left
      · go_simp
        rfl
      have q0 : wv6.cell? ⟨w.heap.size + 1, 0, none⟩ = some (.slice none 0 0) := (blk_cell (blk_below HT2.out HB6.out) 0).trans rfl
      have f0 := blk_frozen (blk_below HT2.out HB6.out) 0
      have q1 : wv6.cell? ⟨w.heap.size + 1, 1, none⟩ = some (.slice none 0 0) := (blk_cell (blk_below HT2.out HB6.out) 1).trans rfl
      have f1 := blk_frozen (blk_below HT2.out HB6.out) 1
      have q2 : wv6.cell? ⟨w.heap.size + 1, 2, none⟩ = some (.slice none 0 0) := (blk_cell (blk_below HT2.out HB6.out) 2).trans rfl
      have f2 := blk_frozen (blk_below HT2.out HB6.out) 2
      refine last_ (i := 24) (N := none) #[T,T,T,T,T,T,T,T,T,T,T,T,T,T,T,T,T,T,T,T,T,T,T,T,T] rfl rfl (by kernel_rfl) (by decide) (fun K hK => ?_)
      refine skip_ (w1 := ?_) (by rfl) rfl ?_ ?_
      rotate_left
      · go_simp
        rfl
      refine hK.out _ _ ?_
      clear hK K
      refine done_ (by kernel_rfl) ?_
      clear hHeld cb0 cb1 cb2 q0 q1 q2 f0 f1 f2
      go_wp2
      obtain ⟨h3, hl3, hb3⟩ := lend_fin (blk_below HT2.out HB6.out) (Nat.le_succ _) (below_step HBb.out HB6.out) (pw_own_below HS2.out HB6.out) (HR6.out.own ⟨20, .slice A20 (d.length + 2) c20, d ++ [73, 74]⟩ (by simp)) (HR6.out.own ⟨29, .slice A29 (x.length + 2) c29, x ++ [75, 76]⟩ (by simp)) hcs hcap20 hcap29 (.slice A10 st.length c10) (.slice A20 d.length c20) (.slice A29 x.length c29)
      refine bodyPost_ret (results_cell_row rfl _ _ (w.heap.size + 1) 28 _ (0, 0) _ rfl h3 Try.underlying28 rfl (by kernel_rfl)) rfl ?_
      exact ⟨_, _, _, _, _, _, rfl, hl3, hb3⟩
    skip
    refine value_ (w1 := ?_) (v := ?_) (by rfl) rfl ?_ ?_
    rotate_left 2
    · go_simp
      constructor
      · rfl
      rfl
    have hbn : Below wb.heap.size wb (wv1.alloc (.cells #[.int .u8 75, .int .u8 76] 5)) := HB1.out.alloc HB1.out.size _
    obtain ⟨g28, hg28⟩ : ∃ g, g = wv1.heap.size := ⟨_, rfl⟩
    have hrn : Rw (wv1.alloc (.cells #[.int .u8 75, .int .u8 76] 5)) wb.heap.size (⟨28, .slice (some ⟨g28, 0, none⟩) 2 2, [75, 76]⟩ :: [⟨18, .slice A18 d.length c18, d⟩]) := by rw [hg28]; exact HR1.out.lit HB1.out.size 28 [75, 76] (by decide)
    obtain ⟨wv2, hw2⟩ : ∃ w, (wv1.alloc (.cells #[.int .u8 75, .int .u8 76] 5)) = w := ⟨_, rfl⟩
    rw [hw2] at hbn hrn ⊢
    rw [← hg28]
    have HB2 := Hd.mk hbn
    have HR2 : Hd (Rw wv2 wb.heap.size [⟨18, .slice A18 d.length c18, d⟩, ⟨28, .slice (some ⟨g28, 0, none⟩) 2 2, [75, 76]⟩]) := ⟨hrn.sub (by simp)⟩
    clear hbn hrn hw2 hg28
    refine hK.out _ _ ⟨pw_cell_below HB2.out cb0, pw_cell_below HB2.out cb1, pw_cell_below HB2.out cb2⟩ (fun hHeld => ?_)
    clear hK K
    refine norm_ (a' := ?_) ?_ ?_
    rotate_left
    · show Act.put _ (some 28) _ = _
      go_simp
      rfl
    refine one_ (i := 8) (N := some 19) #[T,T,T,T,T,T,T,T,T,F,T,T,T,F,T,T,F,T,F,T,T,T,F,F,F] rfl rfl (by kernel_rfl) (by decide) (fun K hK => ?_)
    refine value_ (w1 := ?_) (v := ?_) (by rfl) rfl ?_ ?_
    rotate_left 2
    · go_simp
      constructor
      · rfl
      rfl
    have hbn : Below wb.heap.size wb (wv2.alloc (.cells #[.int .u8 73, .int .u8 74] 5)) := HB2.out.alloc HB2.out.size _
    obtain ⟨g19, hg19⟩ : ∃ g, g = wv2.heap.size := ⟨_, rfl⟩
    have hrn : Rw (wv2.alloc (.cells #[.int .u8 73, .int .u8 74] 5)) wb.heap.size (⟨19, .slice (some ⟨g19, 0, none⟩) 2 2, [73, 74]⟩ :: [⟨18, .slice A18 d.length c18, d⟩, ⟨28, .slice (some ⟨g28, 0, none⟩) 2 2, [75, 76]⟩]) := by rw [hg19]; exact HR2.out.lit HB2.out.size 19 [73, 74] (by decide)
    obtain ⟨wv3, hw3⟩ : ∃ w, (wv2.alloc (.cells #[.int .u8 73, .int .u8 74] 5)) = w := ⟨_, rfl⟩
    rw [hw3] at hbn hrn ⊢
    rw [← hg19]
    have HB3 := Hd.mk hbn
    have HR3 : Hd (Rw wv3 wb.heap.size [⟨18, .slice A18 d.length c18, d⟩, ⟨19, .slice (some ⟨g19, 0, none⟩) 2 2, [73, 74]⟩, ⟨28, .slice (some ⟨g28, 0, none⟩) 2 2, [75, 76]⟩]) := ⟨hrn.sub (by simp)⟩
    clear hbn hrn hw3 hg19
    refine hK.out _ _ ⟨pw_cell_below HB3.out cb0, pw_cell_below HB3.out cb1, pw_cell_below HB3.out cb2⟩ (fun hHeld => ?_)
    clear hK K
    refine norm_ (a' := ?_) ?_ ?_
    rotate_left
    · show Act.put _ (some 19) _ = _
      go_simp
      rfl
    refine one_ (i := 9) (N := some 20) #[T,T,T,T,T,T,T,T,T,T,T,T,T,F,T,T,F,T,F,T,T,T,F,F,F] rfl rfl (by kernel_rfl) (by decide) (fun K hK => ?_)
    obtain ⟨v20, wv4, hrun20, hbn, hrn⟩ := (HR3.out.sub (rows' := ⟨18, .slice A18 d.length c18, d⟩ :: ⟨19, .slice (some ⟨g19, 0, none⟩) 2 2, [73, 74]⟩ :: [⟨28, .slice (some ⟨g28, 0, none⟩) 2 2, [75, 76]⟩]) (by simp)).app ⟨18, .slice A18 d.length c18, d⟩ ⟨19, .slice (some ⟨g19, 0, none⟩) 2 2, [73, 74]⟩ (by simp) (by simp) HB3.out HB3.out.size 20 (A := some ⟨g19, 0, none⟩) (c := 2) rfl (by simp; omega)
    obtain ⟨A20, c20, hv20⟩ : ∃ A c, v20 = .slice A (d.length + 2) c := by have := own_slice (hrn.own _ List.mem_cons_self); simpa using this
    subst hv20
    have hcap20 : d.length + 2 ≤ c20 := by have := own_le (hrn.own _ List.mem_cons_self); simpa using this
    have hcap20b : d.length ≤ c20 := by omega
    have hrun20' : (Builtin.append_ #[25, 25] 25 #[.slice A18 d.length c18, .slice (some ⟨g19, 0, none⟩) 2 2]).run Try.prog wv3 = .ok (.slice A20 (d.length + 2) c20) wv4 := hrun20
    refine value_ (w1 := wv4) (v := .slice A20 (d.length + 2) c20) (by rfl) rfl ?_ ?_
    · (go_simp; first | done | (rw [hrun20']; rfl))
    have HB4 := Hd.mk hbn
    have HR4 : Hd (Rw wv4 wb.heap.size [⟨19, .slice (some ⟨g19, 0, none⟩) 2 2, [73, 74]⟩, ⟨20, .slice A20 (d.length + 2) c20, d ++ [73, 74]⟩, ⟨28, .slice (some ⟨g28, 0, none⟩) 2 2, [75, 76]⟩]) := ⟨hrn.sub (by simp)⟩
    clear hbn hrn hrun20 hrun20'
    refine hK.out _ _ ⟨pw_cell_below HB4.out cb0, pw_cell_below HB4.out cb1, pw_cell_below HB4.out cb2⟩ (fun hHeld => ?_)
    clear hK K
    refine norm_ (a' := ?_) ?_ ?_
    rotate_left
    · show Act.put _ (some 20) _ = _
      go_simp
      rfl
    refine pure_ (i := 13) (N := some 24) (v := ?_) (a' := ?_) #[T,T,T,T,T,T,T,T,T,T,T,T,T,T,T,T,F,T,F,T,T,T,F,F,F] rfl rfl (by kernel_rfl) (fun _ _ _ h => h) (Or.inl ⟨by rfl, ?_⟩) ?_ ?_
    rotate_left
    · intro w'
      go_simp
      with_reducible rfl
    rotate_left
    · go_simp
      rfl
    refine one_ (i := 16) (N := some 27) #[T,T,T,T,T,T,T,T,T,T,T,T,T,T,T,T,T,T,F,T,T,T,F,F,F] rfl rfl (by kernel_rfl) (by decide) (fun K hK => ?_)
    obtain ⟨v27, wv5, hrun27, hbn, hrn⟩ := HR4.out.app0 (c := c2) HB4.out.size 27 (Kd.C_below HE2.out.ex HB4.out) hxl
    obtain ⟨A27, c27, hv27⟩ : ∃ A c, v27 = .slice A x.length c := own_slice (hrn.own _ List.mem_cons_self)
    subst hv27
    refine value_ (w1 := wv5) (v := .slice A27 x.length c27) (by rfl) rfl ?_ ?_
    · (go_simp; first | done | (rw [hrun27]; rfl))
    have HB5 := Hd.mk (below_step HB4.out hbn)
    have HR5 : Hd (Rw wv5 wb.heap.size [⟨19, .slice (some ⟨g19, 0, none⟩) 2 2, [73, 74]⟩, ⟨20, .slice A20 (d.length + 2) c20, d ++ [73, 74]⟩, ⟨27, .slice A27 x.length c27, x⟩, ⟨28, .slice (some ⟨g28, 0, none⟩) 2 2, [75, 76]⟩]) := ⟨hrn.sub (by simp)⟩
    clear hbn hrn hrun27
    refine hK.out _ _ ⟨pw_cell_below HB5.out cb0, pw_cell_below HB5.out cb1, pw_cell_below HB5.out cb2⟩ (fun hHeld => ?_)
    clear hK K
    refine norm_ (a' := ?_) ?_ ?_
    rotate_left
    · show Act.put _ (some 27) _ = _
      go_simp
      rfl
    refine one_ (i := 18) (N := some 29) #[T,T,T,T,T,T,T,T,T,T,T,T,T,T,T,T,T,T,T,T,T,T,F,F,F] rfl rfl (by kernel_rfl) (by decide) (fun K hK => ?_)
    obtain ⟨v29, wv6, hrun29, hbn, hrn⟩ := (HR5.out.sub (rows' := ⟨27, .slice A27 x.length c27, x⟩ :: ⟨28, .slice (some ⟨g28, 0, none⟩) 2 2, [75, 76]⟩ :: [⟨19, .slice (some ⟨g19, 0, none⟩) 2 2, [73, 74]⟩, ⟨20, .slice A20 (d.length + 2) c20, d ++ [73, 74]⟩]) (by simp)).app ⟨27, .slice A27 x.length c27, x⟩ ⟨28, .slice (some ⟨g28, 0, none⟩) 2 2, [75, 76]⟩ (by simp) (by simp) HB5.out HB5.out.size 29 (A := some ⟨g28, 0, none⟩) (c := 2) rfl (by simp; omega)
    obtain ⟨A29, c29, hv29⟩ : ∃ A c, v29 = .slice A (x.length + 2) c := by have := own_slice (hrn.own _ List.mem_cons_self); simpa using this
    subst hv29
    have hcap29 : x.length + 2 ≤ c29 := by have := own_le (hrn.own _ List.mem_cons_self); simpa using this
    have hcap29b : x.length ≤ c29 := by omega
    have hrun29' : (Builtin.append_ #[25, 25] 25 #[.slice A27 x.length c27, .slice (some ⟨g28, 0, none⟩) 2 2]).run Try.prog wv5 = .ok (.slice A29 (x.length + 2) c29) wv6 := hrun29
    refine value_ (w1 := wv6) (v := .slice A29 (x.length + 2) c29) (by rfl) rfl ?_ ?_
    · (go_simp; first | done | (rw [hrun29']; rfl))
    have HB6 := Hd.mk hbn
    have HR6 : Hd (Rw wv6 wb.heap.size [⟨19, .slice (some ⟨g19, 0, none⟩) 2 2, [73, 74]⟩, ⟨20, .slice A20 (d.length + 2) c20, d ++ [73, 74]⟩, ⟨28, .slice (some ⟨g28, 0, none⟩) 2 2, [75, 76]⟩, ⟨29, .slice A29 (x.length + 2) c29, x ++ [75, 76]⟩]) := ⟨hrn.sub (by simp)⟩
    clear hbn hrn hrun29 hrun29'
    refine hK.out _ _ ⟨pw_cell_below HB6.out cb0, pw_cell_below HB6.out cb1, pw_cell_below HB6.out cb2⟩ (fun hHeld => ?_)
    clear hK K
    refine norm_ (a' := ?_) ?_ ?_
    rotate_left
    · show Act.put _ (some 29) _ = _
      go_simp
      rfl
    refine pure_ (i := 22) (N := some 33) (v := ?_) (a' := ?_) #[T,T,T,T,T,T,T,T,T,T,T,T,T,T,T,T,T,T,T,T,T,T,T,F,F] rfl rfl (by kernel_rfl) (fun _ _ _ h => h) (Or.inl ⟨by rfl, ?_⟩) ?_ ?_
    rotate_left
    · intro w'
      go_simp
      with_reducible rfl
    rotate_left
    · go_simp
      rfl
    refine pure_ (i := 23) (N := some 34) (v := ?_) (a' := ?_) #[T,T,T,T,T,T,T,T,T,T,T,T,T,T,T,T,T,T,T,T,T,T,T,T,F] rfl rfl (by kernel_rfl) (fun _ _ _ h => h) (Or.inl ⟨by rfl, ?_⟩) ?_ ?_
    rotate_left
    · intro w'
      go_simp
      with_reducible rfl
    rotate_left
    · go_simp
      rfl
    have q0 : wv6.cell? ⟨w.heap.size + 1, 0, none⟩ = some (.slice none 0 0) := (blk_cell (blk_below HT2.out HB6.out) 0).trans rfl
    have f0 := blk_frozen (blk_below HT2.out HB6.out) 0
    have q1 : wv6.cell? ⟨w.heap.size + 1, 1, none⟩ = some (.slice none 0 0) := (blk_cell (blk_below HT2.out HB6.out) 1).trans rfl
    have f1 := blk_frozen (blk_below HT2.out HB6.out) 1
    have q2 : wv6.cell? ⟨w.heap.size + 1, 2, none⟩ = some (.slice none 0 0) := (blk_cell (blk_below HT2.out HB6.out) 2).trans rfl
    have f2 := blk_frozen (blk_below HT2.out HB6.out) 2
    refine last_ (i := 24) (N := none) #[T,T,T,T,T,T,T,T,T,T,T,T,T,T,T,T,T,T,T,T,T,T,T,T,T] rfl rfl (by kernel_rfl) (by decide) (fun K hK => ?_)
    refine skip_ (w1 := ?_) (by rfl) rfl ?_ ?_
    rotate_left
    · go_simp
      rfl
    refine hK.out _ _ ?_
    clear hK K
    refine done_ (by kernel_rfl) ?_
    clear hHeld cb0 cb1 cb2 q0 q1 q2 f0 f1 f2
    go_wp2
    obtain ⟨h3, hl3, hb3⟩ := lend_fin (blk_below HT2.out HB6.out) (Nat.le_succ _) (below_step HBb.out HB6.out) (pw_own_below HS2.out HB6.out) (HR6.out.own ⟨20, .slice A20 (d.length + 2) c20, d ++ [73, 74]⟩ (by simp)) (HR6.out.own ⟨29, .slice A29 (x.length + 2) c29, x ++ [75, 76]⟩ (by simp)) hcs hcap20 hcap29 (.slice A10 st.length c10) (.slice A20 d.length c20) (.slice A29 x.length c29)
    refine bodyPost_ret (results_cell_row rfl _ _ (w.heap.size + 1) 28 _ (0, 0) _ rfl h3 Try.underlying28 rfl (by kernel_rfl)) rfl ?_
    exact ⟨_, _, _, _, _, _, rfl, hl3, hb3⟩
  · skip
    refine value_ (w1 := ?_) (v := ?_) (by rfl) rfl ?_ ?_
    rotate_left 2
    · go_simp
      constructor
      · rfl
      rfl
    have hbn : Below wb.heap.size wb (wb.alloc (.cells #[.int .u8 73, .int .u8 74] 5)) := HB0.out.alloc HB0.out.size _
    obtain ⟨g19, hg19⟩ : ∃ g, g = wb.heap.size := ⟨_, rfl⟩
    have hrn : Rw (wb.alloc (.cells #[.int .u8 73, .int .u8 74] 5)) wb.heap.size (⟨19, .slice (some ⟨g19, 0, none⟩) 2 2, [73, 74]⟩ :: []) := by rw [hg19]; exact HR0.out.lit HB0.out.size 19 [73, 74] (by decide)
    obtain ⟨wv1, hw1⟩ : ∃ w, (wb.alloc (.cells #[.int .u8 73, .int .u8 74] 5)) = w := ⟨_, rfl⟩
    rw [hw1] at hbn hrn ⊢
    rw [← hg19]
    have HB1 := Hd.mk hbn
    have HR1 : Hd (Rw wv1 wb.heap.size [⟨19, .slice (some ⟨g19, 0, none⟩) 2 2, [73, 74]⟩]) := ⟨hrn.sub (by simp)⟩
    clear hbn hrn hw1 hg19
    refine hK.out _ _ ⟨pw_cell_below HB1.out cb0, pw_cell_below HB1.out cb1, pw_cell_below HB1.out cb2⟩ (fun hHeld => ?_)
    clear hK K
    refine norm_ (a' := ?_) ?_ ?_
    rotate_left
    · show Act.put _ (some 19) _ = _
      go_simp
      rfl
    refine two_ (i := 7) (j := 17) (Ni := some 18) (Nj := some 28) #[T,T,T,T,T,T,T,T,T,F,T,T,T,F,T,T,F,F,F,T,T,T,F,F,F] #[T,T,T,T,T,T,T,F,T,F,T,T,T,F,T,T,F,T,F,T,T,T,F,F,F] rfl rfl rfl rfl (by kernel_rfl) (by decide) (by decide) (fun K hK => ?_) (fun K hK => ?_)
    · skip
      obtain ⟨v18, wv2, hrun18, hbn, hrn⟩ := HR1.out.app0 (c := c1) HB1.out.size 18 (Kd.C_below HE2.out.di HB1.out) hdl
      obtain ⟨A18, c18, hv18⟩ : ∃ A c, v18 = .slice A d.length c := own_slice (hrn.own _ List.mem_cons_self)
      subst hv18
      refine value_ (w1 := wv2) (v := .slice A18 d.length c18) (by rfl) rfl ?_ ?_
      · (go_simp; first | done | (rw [hrun18]; rfl))
      have HB2 := Hd.mk (below_step HB1.out hbn)
      have HR2 : Hd (Rw wv2 wb.heap.size [⟨18, .slice A18 d.length c18, d⟩, ⟨19, .slice (some ⟨g19, 0, none⟩) 2 2, [73, 74]⟩]) := ⟨hrn.sub (by simp)⟩
      clear hbn hrn hrun18
      refine hK.out _ _ ⟨pw_cell_below HB2.out cb0, pw_cell_below HB2.out cb1, pw_cell_below HB2.out cb2⟩ (fun hHeld => ?_)
      clear hK K
      refine norm_ (a' := ?_) ?_ ?_
      rotate_left
      · show Act.put _ (some 18) _ = _
        go_simp
        rfl
      refine two_ (i := 9) (j := 17) (Ni := some 20) (Nj := some 28) #[T,T,T,T,T,T,T,T,T,T,T,T,T,F,T,T,F,F,F,T,T,T,F,F,F] #[T,T,T,T,T,T,T,T,T,F,T,T,T,F,T,T,F,T,F,T,T,T,F,F,F] rfl rfl rfl rfl (by kernel_rfl) (by decide) (by decide) (fun K hK => ?_) (fun K hK => ?_)
      · skip
        obtain ⟨v20, wv3, hrun20, hbn, hrn⟩ := (HR2.out.sub (rows' := ⟨18, .slice A18 d.length c18, d⟩ :: ⟨19, .slice (some ⟨g19, 0, none⟩) 2 2, [73, 74]⟩ :: []) (by simp)).app ⟨18, .slice A18 d.length c18, d⟩ ⟨19, .slice (some ⟨g19, 0, none⟩) 2 2, [73, 74]⟩ (by simp) (by simp) HB2.out HB2.out.size 20 (A := some ⟨g19, 0, none⟩) (c := 2) rfl (by simp; omega)
        obtain ⟨A20, c20, hv20⟩ : ∃ A c, v20 = .slice A (d.length + 2) c := by have := own_slice (hrn.own _ List.mem_cons_self); simpa using this
        subst hv20
        have hcap20 : d.length + 2 ≤ c20 := by have := own_le (hrn.own _ List.mem_cons_self); simpa using this
        have hcap20b : d.length ≤ c20 := by omega
        have hrun20' : (Builtin.append_ #[25, 25] 25 #[.slice A18 d.length c18, .slice (some ⟨g19, 0, none⟩) 2 2]).run Try.prog wv2 = .ok (.slice A20 (d.length + 2) c20) wv3 := hrun20
        refine value_ (w1 := wv3) (v := .slice A20 (d.length + 2) c20) (by rfl) rfl ?_ ?_
        · (go_simp; first | done | (rw [hrun20']; rfl))
        have HB3 := Hd.mk hbn
        have HR3 : Hd (Rw wv3 wb.heap.size [⟨19, .slice (some ⟨g19, 0, none⟩) 2 2, [73, 74]⟩, ⟨20, .slice A20 (d.length + 2) c20, d ++ [73, 74]⟩]) := ⟨hrn.sub (by simp)⟩
        clear hbn hrn hrun20 hrun20'
        refine hK.out _ _ ⟨pw_cell_below HB3.out cb0, pw_cell_below HB3.out cb1, pw_cell_below HB3.out cb2⟩ (fun hHeld => ?_)
        clear hK K
        refine norm_ (a' := ?_) ?_ ?_
        rotate_left
        · show Act.put _ (some 20) _ = _
          go_simp
          rfl
        refine pure_ (i := 13) (N := some 24) (v := ?_) (a' := ?_) #[T,T,T,T,T,T,T,T,T,T,T,T,T,T,T,T,F,F,F,T,T,T,F,F,F] rfl rfl (by kernel_rfl) (fun _ _ _ h => h) (Or.inl ⟨by rfl, ?_⟩) ?_ ?_
        rotate_left
        · intro w'
          go_simp
          with_reducible rfl
        rotate_left
        · go_simp
          rfl
        refine two_ (i := 16) (j := 17) (Ni := some 27) (Nj := some 28) #[T,T,T,T,T,T,T,T,T,T,T,T,T,T,T,T,T,F,F,T,T,T,F,F,F] #[T,T,T,T,T,T,T,T,T,T,T,T,T,T,T,T,F,T,F,T,T,T,F,F,F] rfl rfl rfl rfl (by kernel_rfl) (by decide) (by decide) (fun K hK => ?_) (fun K hK => ?_)
        · skip
          obtain ⟨v27, wv4, hrun27, hbn, hrn⟩ := HR3.out.app0 (c := c2) HB3.out.size 27 (Kd.C_below HE2.out.ex HB3.out) hxl
          obtain ⟨A27, c27, hv27⟩ : ∃ A c, v27 = .slice A x.length c := own_slice (hrn.own _ List.mem_cons_self)
          subst hv27
          refine value_ (w1 := wv4) (v := .slice A27 x.length c27) (by rfl) rfl ?_ ?_
          · (go_simp; first | done | (rw [hrun27]; rfl))
          have HB4 := Hd.mk (below_step HB3.out hbn)
          have HR4 : Hd (Rw wv4 wb.heap.size [⟨19, .slice (some ⟨g19, 0, none⟩) 2 2, [73, 74]⟩, ⟨20, .slice A20 (d.length + 2) c20, d ++ [73, 74]⟩, ⟨27, .slice A27 x.length c27, x⟩]) := ⟨hrn.sub (by simp)⟩
          clear hbn hrn hrun27
          refine hK.out _ _ ⟨pw_cell_below HB4.out cb0, pw_cell_below HB4.out cb1, pw_cell_below HB4.out cb2⟩ (fun hHeld => ?_)
          clear hK K
          refine norm_ (a' := ?_) ?_ ?_
          rotate_left
          · show Act.put _ (some 27) _ = _
            go_simp
            rfl
          refine one_ (i := 17) (N := some 28) #[T,T,T,T,T,T,T,T,T,T,T,T,T,T,T,T,T,T,F,T,T,T,F,F,F] rfl rfl (by kernel_rfl) (by decide) (fun K hK => ?_)
          refine value_ (w1 := ?_) (v := ?_) (by rfl) rfl ?_ ?_
          rotate_left 2
          · go_simp
            constructor
            · rfl
            rfl
          have hbn : Below wb.heap.size wb (wv4.alloc (.cells #[.int .u8 75, .int .u8 76] 5)) := HB4.out.alloc HB4.out.size _
          obtain ⟨g28, hg28⟩ : ∃ g, g = wv4.heap.size := ⟨_, rfl⟩
          have hrn : Rw (wv4.alloc (.cells #[.int .u8 75, .int .u8 76] 5)) wb.heap.size (⟨28, .slice (some ⟨g28, 0, none⟩) 2 2, [75, 76]⟩ :: [⟨19, .slice (some ⟨g19, 0, none⟩) 2 2, [73, 74]⟩, ⟨20, .slice A20 (d.length + 2) c20, d ++ [73, 74]⟩, ⟨27, .slice A27 x.length c27, x⟩]) := by rw [hg28]; exact HR4.out.lit HB4.out.size 28 [75, 76] (by decide)
          obtain ⟨wv5, hw5⟩ : ∃ w, (wv4.alloc (.cells #[.int .u8 75, .int .u8 76] 5)) = w := ⟨_, rfl⟩
          rw [hw5] at hbn hrn ⊢
          rw [← hg28]
          have HB5 := Hd.mk hbn
          have HR5 : Hd (Rw wv5 wb.heap.size [⟨19, .slice (some ⟨g19, 0, none⟩) 2 2, [73, 74]⟩, ⟨20, .slice A20 (d.length + 2) c20, d ++ [73, 74]⟩, ⟨27, .slice A27 x.length c27, x⟩, ⟨28, .slice (some ⟨g28, 0, none⟩) 2 2, [75, 76]⟩]) := ⟨hrn.sub (by simp)⟩
          clear hbn hrn hw5 hg28
          refine hK.out _ _ ⟨pw_cell_below HB5.out cb0, pw_cell_below HB5.out cb1, pw_cell_below HB5.out cb2⟩ (fun hHeld => ?_)
          clear hK K
          refine norm_ (a' := ?_) ?_ ?_
          rotate_left
          · show Act.put _ (some 28) _ = _
            go_simp
            rfl
          refine one_ (i := 18) (N := some 29) #[T,T,T,T,T,T,T,T,T,T,T,T,T,T,T,T,T,T,T,T,T,T,F,F,F] rfl rfl (by kernel_rfl) (by decide) (fun K hK => ?_)
          obtain ⟨v29, wv6, hrun29, hbn, hrn⟩ := (HR5.out.sub (rows' := ⟨27, .slice A27 x.length c27, x⟩ :: ⟨28, .slice (some ⟨g28, 0, none⟩) 2 2, [75, 76]⟩ :: [⟨19, .slice (some ⟨g19, 0, none⟩) 2 2, [73, 74]⟩, ⟨20, .slice A20 (d.length + 2) c20, d ++ [73, 74]⟩]) (by simp)).app ⟨27, .slice A27 x.length c27, x⟩ ⟨28, .slice (some ⟨g28, 0, none⟩) 2 2, [75, 76]⟩ (by simp) (by simp) HB5.out HB5.out.size 29 (A := some ⟨g28, 0, none⟩) (c := 2) rfl (by simp; omega)
          obtain ⟨A29, c29, hv29⟩ : ∃ A c, v29 = .slice A (x.length + 2) c := by have := own_slice (hrn.own _ List.mem_cons_self); simpa using this
          subst hv29
          have hcap29 : x.length + 2 ≤ c29 := by have := own_le (hrn.own _ List.mem_cons_self); simpa using this
          have hcap29b : x.length ≤ c29 := by omega
          have hrun29' : (Builtin.append_ #[25, 25] 25 #[.slice A27 x.length c27, .slice (some ⟨g28, 0, none⟩) 2 2]).run Try.prog wv5 = .ok (.slice A29 (x.length + 2) c29) wv6 := hrun29
          refine value_ (w1 := wv6) (v := .slice A29 (x.length + 2) c29) (by rfl) rfl ?_ ?_
          · (go_simp; first | done | (rw [hrun29']; rfl))
          have HB6 := Hd.mk hbn
          have HR6 : Hd (Rw wv6 wb.heap.size [⟨19, .slice (some ⟨g19, 0, none⟩) 2 2, [73, 74]⟩, ⟨20, .slice A20 (d.length + 2) c20, d ++ [73, 74]⟩, ⟨28, .slice (some ⟨g28, 0, none⟩) 2 2, [75, 76]⟩, ⟨29, .slice A29 (x.length + 2) c29, x ++ [75, 76]⟩]) := ⟨hrn.sub (by simp)⟩
          clear hbn hrn hrun29 hrun29'
          refine hK.out _ _ ⟨pw_cell_below HB6.out cb0, pw_cell_below HB6.out cb1, pw_cell_below HB6.out cb2⟩ (fun hHeld => ?_)
          clear hK K
          refine norm_ (a' := ?_) ?_ ?_
          rotate_left
          · show Act.put _ (some 29) _ = _
            go_simp
            rfl
          refine pure_ (i := 22) (N := some 33) (v := ?_) (a' := ?_) #[T,T,T,T,T,T,T,T,T,T,T,T,T,T,T,T,T,T,T,T,T,T,T,F,F] rfl rfl (by kernel_rfl) (fun _ _ _ h => h) (Or.inl ⟨by rfl, ?_⟩) ?_ ?_
          rotate_left
          · intro w'
            go_simp
            with_reducible rfl
          rotate_left
          · go_simp
            rfl
          refine pure_ (i := 23) (N := some 34) (v := ?_) (a' := ?_) #[T,T,T,T,T,T,T,T,T,T,T,T,T,T,T,T,T,T,T,T,T,T,T,T,F] rfl rfl (by kernel_rfl) (fun _ _ _ h => h) (Or.inl ⟨by rfl, ?_⟩) ?_ ?_
          rotate_left
          · intro w'
            go_simp
            with_reducible rfl
          rotate_left
          · go_simp
            rfl
          have q0 : wv6.cell? ⟨w.heap.size + 1, 0, none⟩ = some (.slice none 0 0) := (blk_cell (blk_below HT2.out HB6.out) 0).trans rfl
          have f0 := blk_frozen (blk_below HT2.out HB6.out) 0
          have q1 : wv6.cell? ⟨w.heap.size + 1, 1, none⟩ = some (.slice none 0 0) := (blk_cell (blk_below HT2.out HB6.out) 1).trans rfl
          have f1 := blk_frozen (blk_below HT2.out HB6.out) 1
          have q2 : wv6.cell? ⟨w.heap.size + 1, 2, none⟩ = some (.slice none 0 0) := (blk_cell (blk_below HT2.out HB6.out) 2).trans rfl
          have f2 := blk_frozen (blk_below HT2.out HB6.out) 2
          refine last_ (i := 24) (N := none) #[T,T,T,T,T,T,T,T,T,T,T,T,T,T,T,T,T,T,T,T,T,T,T,T,T] rfl rfl (by kernel_rfl) (by decide) (fun K hK => ?_)
          refine skip_ (w1 := ?_) (by rfl) rfl ?_ ?_
          rotate_left
          · go_simp
            rfl
          refine hK.out _ _ ?_
          clear hK K
          refine done_ (by kernel_rfl) ?_
          clear hHeld cb0 cb1 cb2 q0 q1 q2 f0 f1 f2
          go_wp2
          obtain ⟨h3, hl3, hb3⟩ := lend_fin (blk_below HT2.out HB6.out) (Nat.le_succ _) (below_step HBb.out HB6.out) (pw_own_below HS2.out HB6.out) (HR6.out.own ⟨20, .slice A20 (d.length + 2) c20, d ++ [73, 74]⟩ (by simp)) (HR6.out.own ⟨29, .slice A29 (x.length + 2) c29, x ++ [75, 76]⟩ (by simp)) hcs hcap20 hcap29 (.slice A10 st.length c10) (.slice A20 d.length c20) (.slice A29 x.length c29)
          refine bodyPost_ret (results_cell_row rfl _ _ (w.heap.size + 1) 28 _ (0, 0) _ rfl h3 Try.underlying28 rfl (by kernel_rfl)) rfl ?_
          exact ⟨_, _, _, _, _, _, rfl, hl3, hb3⟩
        skip
        refine value_ (w1 := ?_) (v := ?_) (by rfl) rfl ?_ ?_
        rotate_left 2
        · go_simp
          constructor
          · rfl
          rfl
        have hbn : Below wb.heap.size wb (wv3.alloc (.cells #[.int .u8 75, .int .u8 76] 5)) := HB3.out.alloc HB3.out.size _
        obtain ⟨g28, hg28⟩ : ∃ g, g = wv3.heap.size := ⟨_, rfl⟩
        have hrn : Rw (wv3.alloc (.cells #[.int .u8 75, .int .u8 76] 5)) wb.heap.size (⟨28, .slice (some ⟨g28, 0, none⟩) 2 2, [75, 76]⟩ :: [⟨19, .slice (some ⟨g19, 0, none⟩) 2 2, [73, 74]⟩, ⟨20, .slice A20 (d.length + 2) c20, d ++ [73, 74]⟩]) := by rw [hg28]; exact HR3.out.lit HB3.out.size 28 [75, 76] (by decide)
        obtain ⟨wv4, hw4⟩ : ∃ w, (wv3.alloc (.cells #[.int .u8 75, .int .u8 76] 5)) = w := ⟨_, rfl⟩
        rw [hw4] at hbn hrn ⊢
        rw [← hg28]
        have HB4 := Hd.mk hbn
        have HR4 : Hd (Rw wv4 wb.heap.size [⟨19, .slice (some ⟨g19, 0, none⟩) 2 2, [73, 74]⟩, ⟨20, .slice A20 (d.length + 2) c20, d ++ [73, 74]⟩, ⟨28, .slice (some ⟨g28, 0, none⟩) 2 2, [75, 76]⟩]) := ⟨hrn.sub (by simp)⟩
        clear hbn hrn hw4 hg28
        refine hK.out _ _ ⟨pw_cell_below HB4.out cb0, pw_cell_below HB4.out cb1, pw_cell_below HB4.out cb2⟩ (fun hHeld => ?_)
        clear hK K
        refine norm_ (a' := ?_) ?_ ?_
        rotate_left
        · show Act.put _ (some 28) _ = _
          go_simp
          rfl
        refine one_ (i := 16) (N := some 27) #[T,T,T,T,T,T,T,T,T,T,T,T,T,T,T,T,T,T,F,T,T,T,F,F,F] rfl rfl (by kernel_rfl) (by decide) (fun K hK => ?_)
        obtain ⟨v27, wv5, hrun27, hbn, hrn⟩ := HR4.out.app0 (c := c2) HB4.out.size 27 (Kd.C_below HE2.out.ex HB4.out) hxl
        obtain ⟨A27, c27, hv27⟩ : ∃ A c, v27 = .slice A x.length c := own_slice (hrn.own _ List.mem_cons_self)
        subst hv27
        refine value_ (w1 := wv5) (v := .slice A27 x.length c27) (by rfl) rfl ?_ ?_
        · (go_simp; first | done | (rw [hrun27]; rfl))
        have HB5 := Hd.mk (below_step HB4.out hbn)
        have HR5 : Hd (Rw wv5 wb.heap.size [⟨19, .slice (some ⟨g19, 0, none⟩) 2 2, [73, 74]⟩, ⟨20, .slice A20 (d.length + 2) c20, d ++ [73, 74]⟩, ⟨27, .slice A27 x.length c27, x⟩, ⟨28, .slice (some ⟨g28, 0, none⟩) 2 2, [75, 76]⟩]) := ⟨hrn.sub (by simp)⟩
        clear hbn hrn hrun27
        refine hK.out _ _ ⟨pw_cell_below HB5.out cb0, pw_cell_below HB5.out cb1, pw_cell_below HB5.out cb2⟩ (fun hHeld => ?_)
        clear hK K
        refine norm_ (a' := ?_) ?_ ?_
        rotate_left
        · show Act.put _ (some 27) _ = _
          go_simp
          rfl
        refine one_ (i := 18) (N := some 29) #[T,T,T,T,T,T,T,T,T,T,T,T,T,T,T,T,T,T,T,T,T,T,F,F,F] rfl rfl (by kernel_rfl) (by decide) (fun K hK => ?_)
        obtain ⟨v29, wv6, hrun29, hbn, hrn⟩ := (HR5.out.sub (rows' := ⟨27, .slice A27 x.length c27, x⟩ :: ⟨28, .slice (some ⟨g28, 0, none⟩) 2 2, [75, 76]⟩ :: [⟨19, .slice (some ⟨g19, 0, none⟩) 2 2, [73, 74]⟩, ⟨20, .slice A20 (d.length + 2) c20, d ++ [73, 74]⟩]) (by simp)).app ⟨27, .slice A27 x.length c27, x⟩ ⟨28, .slice (some ⟨g28, 0, none⟩) 2 2, [75, 76]⟩ (by simp) (by simp) HB5.out HB5.out.size 29 (A := some ⟨g28, 0, none⟩) (c := 2) rfl (by simp; omega)
        obtain ⟨A29, c29, hv29⟩ : ∃ A c, v29 = .slice A (x.length + 2) c := by have := own_slice (hrn.own _ List.mem_cons_self); simpa using this
        subst hv29
        have hcap29 : x.length + 2 ≤ c29 := by have := own_le (hrn.own _ List.mem_cons_self); simpa using this
        have hcap29b : x.length ≤ c29 := by omega
        have hrun29' : (Builtin.append_ #[25, 25] 25 #[.slice A27 x.length c27, .slice (some ⟨g28, 0, none⟩) 2 2]).run Try.prog wv5 = .ok (.slice A29 (x.length + 2) c29) wv6 := hrun29
        refine value_ (w1 := wv6) (v := .slice A29 (x.length + 2) c29) (by rfl) rfl ?_ ?_
        · (go_simp; first | done | (rw [hrun29']; rfl))
        have HB6 := Hd.mk hbn
        have HR6 : Hd (Rw wv6 wb.heap.size [⟨19, .slice (some ⟨g19, 0, none⟩) 2 2, [73, 74]⟩, ⟨20, .slice A20 (d.length + 2) c20, d ++ [73, 74]⟩, ⟨28, .slice (some ⟨g28, 0, none⟩) 2 2, [75, 76]⟩, ⟨29, .slice A29 (x.length + 2) c29, x ++ [75, 76]⟩]) := ⟨hrn.sub (by simp)⟩
        clear hbn hrn hrun29 hrun29'
        refine hK.out _ _ ⟨pw_cell_below HB6.out cb0, pw_cell_below HB6.out cb1, pw_cell_below HB6.out cb2⟩ (fun hHeld => ?_)
        clear hK K
        refine norm_ (a' := ?_) ?_ ?_
        rotate_left
        · show Act.put _ (some 29) _ = _
          go_simp
          rfl
        refine pure_ (i := 22) (N := some 33) (v := ?_) (a' := ?_) #[T,T,T,T,T,T,T,T,T,T,T,T,T,T,T,T,T,T,T,T,T,T,T,F,F] rfl rfl (by kernel_rfl) (fun _ _ _ h => h) (Or.inl ⟨by rfl, ?_⟩) ?_ ?_
        rotate_left
        · intro w'
          go_simp
          with_reducible rfl
        rotate_left
        · go_simp
          rfl
        refine pure_ (i := 23) (N := some 34) (v := ?_) (a' := ?_) #[T,T,T,T,T,T,T,T,T,T,T,T,T,T,T,T,T,T,T,T,T,T,T,T,F] rfl rfl (by kernel_rfl) (fun _ _ _ h => h) (Or.inl ⟨by rfl, ?_⟩) ?_ ?_
        rotate_left
        · intro w'
          go_simp
          with_reducible rfl
        rotate_left
        · go_simp
          rfl
        have q0 : wv6.cell? ⟨w.heap.size + 1, 0, none⟩ = some (.slice none 0 0) := (blk_cell (blk_below HT2.out HB6.out) 0).trans rfl
        have f0 := blk_frozen (blk_below HT2.out HB6.out) 0
        have q1 : wv6.cell? ⟨w.heap.size + 1, 1, none⟩ = some (.slice none 0 0) := (blk_cell (blk_below HT2.out HB6.out) 1).trans rfl
        have f1 := blk_frozen (blk_below HT2.out HB6.out) 1
        have q2 : wv6.cell? ⟨w.heap.size + 1, 2, none⟩ = some (.slice none 0 0) := (blk_cell (blk_below HT2.out HB6.out) 2).trans rfl
        have f2 := blk_frozen (blk_below HT2.out HB6.out) 2
        refine last_ (i := 24) (N := none) #[T,T,T,T,T,T,T,T,T,T,T,T,T,T,T,T,T,T,T,T,T,T,T,T,T] rfl rfl (by kernel_rfl) (by decide) (fun K hK => ?_)
        refine skip_ (w1 := ?_) (by rfl) rfl ?_ ?_
        rotate_left
        · go_simp
          rfl
        refine hK.out _ _ ?_
        clear hK K
        refine done_ (by kernel_rfl) ?_
        clear hHeld cb0 cb1 cb2 q0 q1 q2 f0 f1 f2
        go_wp2
        obtain ⟨h3, hl3, hb3⟩ := lend_fin (blk_below HT2.out HB6.out) (Nat.le_succ _) (below_step HBb.out HB6.out) (pw_own_below HS2.out HB6.out) (HR6.out.own ⟨20, .slice A20 (d.length + 2) c20, d ++ [73, 74]⟩ (by simp)) (HR6.out.own ⟨29, .slice A29 (x.length + 2) c29, x ++ [75, 76]⟩ (by simp)) hcs hcap20 hcap29 (.slice A10 st.length c10) (.slice A20 d.length c20) (.slice A29 x.length c29)
        refine bodyPost_ret (results_cell_row rfl _ _ (w.heap.size + 1) 28 _ (0, 0) _ rfl h3 Try.underlying28 rfl (by kernel_rfl)) rfl ?_
        exact ⟨_, _, _, _, _, _, rfl, hl3, hb3⟩
      skip
      refine value_ (w1 := ?_) (v := ?_) (by rfl) rfl ?_ ?_
      rotate_left 2
      · go_simp
        constructor
        · rfl
        rfl
      have hbn : Below wb.heap.size wb (wv2.alloc (.cells #[.int .u8 75, .int .u8 76] 5)) := HB2.out.alloc HB2.out.size _
      obtain ⟨g28, hg28⟩ : ∃ g, g = wv2.heap.size := ⟨_, rfl⟩
      have hrn : Rw (wv2.alloc (.cells #[.int .u8 75, .int .u8 76] 5)) wb.heap.size (⟨28, .slice (some ⟨g28, 0, none⟩) 2 2, [75, 76]⟩ :: [⟨18, .slice A18 d.length c18, d⟩, ⟨19, .slice (some ⟨g19, 0, none⟩) 2 2, [73, 74]⟩]) := by rw [hg28]; exact HR2.out.lit HB2.out.size 28 [75, 76] (by decide)
      obtain ⟨wv3, hw3⟩ : ∃ w, (wv2.alloc (.cells #[.int .u8 75, .int .u8 76] 5)) = w := ⟨_, rfl⟩
      rw [hw3] at hbn hrn ⊢
      rw [← hg28]
      have HB3 := Hd.mk hbn
      have HR3 : Hd (Rw wv3 wb.heap.size [⟨18, .slice A18 d.length c18, d⟩, ⟨19, .slice (some ⟨g19, 0, none⟩) 2 2, [73, 74]⟩, ⟨28, .slice (some ⟨g28, 0, none⟩) 2 2, [75, 76]⟩]) := ⟨hrn.sub (by simp)⟩
      clear hbn hrn hw3 hg28
      refine hK.out _ _ ⟨pw_cell_below HB3.out cb0, pw_cell_below HB3.out cb1, pw_cell_below HB3.out cb2⟩ (fun hHeld => ?_)
      clear hK K
      refine norm_ (a' := ?_) ?_ ?_
      rotate_left
      · show Act.put _ (some 28) _ = _
        go_simp
        rfl
      refine one_ (i := 9) (N := some 20) #[T,T,T,T,T,T,T,T,T,T,T,T,T,F,T,T,F,T,F,T,T,T,F,F,F] rfl rfl (by kernel_rfl) (by decide) (fun K hK => ?_)
      obtain ⟨v20, wv4, hrun20, hbn, hrn⟩ := (HR3.out.sub (rows' := ⟨18, .slice A18 d.length c18, d⟩ :: ⟨19, .slice (some ⟨g19, 0, none⟩) 2 2, [73, 74]⟩ :: [⟨28, .slice (some ⟨g28, 0, none⟩) 2 2, [75, 76]⟩]) (by simp)).app ⟨18, .slice A18 d.length c18, d⟩ ⟨19, .slice (some ⟨g19, 0, none⟩) 2 2, [73, 74]⟩ (by simp) (by simp) HB3.out HB3.out.size 20 (A := some ⟨g19, 0, none⟩) (c := 2) rfl (by simp; omega)
      obtain ⟨A20, c20, hv20⟩ : ∃ A c, v20 = .slice A (d.length + 2) c := by have := own_slice (hrn.own _ List.mem_cons_self); simpa using this
      subst hv20
      have hcap20 : d.length + 2 ≤ c20 := by have := own_le (hrn.own _ List.mem_cons_self); simpa using this
      have hcap20b : d.length ≤ c20 := by omega
      have hrun20' : (Builtin.append_ #[25, 25] 25 #[.slice A18 d.length c18, .slice (some ⟨g19, 0, none⟩) 2 2]).run Try.prog wv3 = .ok (.slice A20 (d.length + 2) c20) wv4 := hrun20
      refine value_ (w1 := wv4) (v := .slice A20 (d.length + 2) c20) (by rfl) rfl ?_ ?_
      · (go_simp; first | done | (rw [hrun20']; rfl))
      have HB4 := Hd.mk hbn
      have HR4 : Hd (Rw wv4 wb.heap.size [⟨19, .slice (some ⟨g19, 0, none⟩) 2 2, [73, 74]⟩, ⟨20, .slice A20 (d.length + 2) c20, d ++ [73, 74]⟩, ⟨28, .slice (some ⟨g28, 0, none⟩) 2 2, [75, 76]⟩]) := ⟨hrn.sub (by simp)⟩
      clear hbn hrn hrun20 hrun20'
      refine hK.out _ _ ⟨pw_cell_below HB4.out cb0, pw_cell_below HB4.out cb1, pw_cell_below HB4.out cb2⟩ (fun hHeld => ?_)
      clear hK K
      refine norm_ (a' := ?_) ?_ ?_
      rotate_left
      · show Act.put _ (some 20) _ = _
        go_simp
        rfl
      refine pure_ (i := 13) (N := some 24) (v := ?_) (a' := ?_) #[T,T,T,T,T,T,T,T,T,T,T,T,T,T,T,T,F,T,F,T,T,T,F,F,F] rfl rfl (by kernel_rfl) (fun _ _ _ h => h) (Or.inl ⟨by rfl, ?_⟩) ?_ ?_
      rotate_left
      · intro w'
        go_simp
        with_reducible rfl
      rotate_left
      · go_simp
        rfl
      refine one_ (i := 16) (N := some 27) #[T,T,T,T,T,T,T,T,T,T,T,T,T,T,T,T,T,T,F,T,T,T,F,F,F] rfl rfl (by kernel_rfl) (by decide) (fun K hK => ?_)
      obtain ⟨v27, wv5, hrun27, hbn, hrn⟩ := HR4.out.app0 (c := c2) HB4.out.size 27 (Kd.C_below HE2.out.ex HB4.out) hxl
      obtain ⟨A27, c27, hv27⟩ : ∃ A c, v27 = .slice A x.length c := own_slice (hrn.own _ List.mem_cons_self)
      subst hv27
      refine value_ (w1 := wv5) (v := .slice A27 x.length c27) (by rfl) rfl ?_ ?_
      · (go_simp; first | done | (rw [hrun27]; rfl))
      have HB5 := Hd.mk (below_step HB4.out hbn)
      have HR5 : Hd (Rw wv5 wb.heap.size [⟨19, .slice (some ⟨g19, 0, none⟩) 2 2, [73, 74]⟩, ⟨20, .slice A20 (d.length + 2) c20, d ++ [73, 74]⟩, ⟨27, .slice A27 x.length c27, x⟩, ⟨28, .slice (some ⟨g28, 0, none⟩) 2 2, [75, 76]⟩]) := ⟨hrn.sub (by simp)⟩
      clear hbn hrn hrun27
      refine hK.out _ _ ⟨pw_cell_below HB5.out cb0, pw_cell_below HB5.out cb1, pw_cell_below HB5.out cb2⟩ (fun hHeld => ?_)
      clear hK K
      refine norm_ (a' := ?_) ?_ ?_
      rotate_left
      · show Act.put _ (some 27) _ = _
        go_simp
        rfl
      refine one_ (i := 18) (N := some 29) #[T,T,T,T,T,T,T,T,T,T,T,T,T,T,T,T,T,T,T,T,T,T,F,F,F] rfl rfl (by kernel_rfl) (by decide) (fun K hK => ?_)
      obtain ⟨v29, wv6, hrun29, hbn, hrn⟩ := (HR5.out.sub (rows' := ⟨27, .slice A27 x.length c27, x⟩ :: ⟨28, .slice (some ⟨g28, 0, none⟩) 2 2, [75, 76]⟩ :: [⟨19, .slice (some ⟨g19, 0, none⟩) 2 2, [73, 74]⟩, ⟨20, .slice A20 (d.length + 2) c20, d ++ [73, 74]⟩]) (by simp)).app ⟨27, .slice A27 x.length c27, x⟩ ⟨28, .slice (some ⟨g28, 0, none⟩) 2 2, [75, 76]⟩ (by simp) (by simp) HB5.out HB5.out.size 29 (A := some ⟨g28, 0, none⟩) (c := 2) rfl (by simp; omega)
      obtain ⟨A29, c29, hv29⟩ : ∃ A c, v29 = .slice A (x.length + 2) c := by have := own_slice (hrn.own _ List.mem_cons_self); simpa using this
      subst hv29
      have hcap29 : x.length + 2 ≤ c29 := by have := own_le (hrn.own _ List.mem_cons_self); simpa using this
      have hcap29b : x.length ≤ c29 := by omega
      have hrun29' : (Builtin.append_ #[25, 25] 25 #[.slice A27 x.length c27, .slice (some ⟨g28, 0, none⟩) 2 2]).run Try.prog wv5 = .ok (.slice A29 (x.length + 2) c29) wv6 := hrun29
      refine value_ (w1 := wv6) (v := .slice A29 (x.length + 2) c29) (by rfl) rfl ?_ ?_
      · (go_simp; first | done | (rw [hrun29']; rfl))
      have HB6 := Hd.mk hbn
      have HR6 : Hd (Rw wv6 wb.heap.size [⟨19, .slice (some ⟨g19, 0, none⟩) 2 2, [73, 74]⟩, ⟨20, .slice A20 (d.length + 2) c20, d ++ [73, 74]⟩, ⟨28, .slice (some ⟨g28, 0, none⟩) 2 2, [75, 76]⟩, ⟨29, .slice A29 (x.length + 2) c29, x ++ [75, 76]⟩]) := ⟨hrn.sub (by simp)⟩
      clear hbn hrn hrun29 hrun29'
      refine hK.out _ _ ⟨pw_cell_below HB6.out cb0, pw_cell_below HB6.out cb1, pw_cell_below HB6.out cb2⟩ (fun hHeld => ?_)
      clear hK K
      refine norm_ (a' := ?_) ?_ ?_
      rotate_left
      · show Act.put _ (some 29) _ = _
        go_simp
        rfl
      refine pure_ (i := 22) (N := some 33) (v := ?_) (a' := ?_) #[T,T,T,T,T,T,T,T,T,T,T,T,T,T,T,T,T,T,T,T,T,T,T,F,F] rfl rfl (by kernel_rfl) (fun _ _ _ h => h) (Or.inl ⟨by rfl, ?_⟩) ?_ ?_
      rotate_left
      · intro w'
        go_simp
        with_reducible rfl
      rotate_left
      · go_simp
        rfl
      refine pure_ (i := 23) (N := some 34) (v := ?_) (a' := ?_) #[T,T,T,T,T,T,T,T,T,T,T,T,T,T,T,T,T,T,T,T,T,T,T,T,F] rfl rfl (by kernel_rfl) (fun _ _ _ h => h) (Or.inl ⟨by rfl, ?_⟩) ?_ ?_
      rotate_left
      · intro w'
        go_simp
        with_reducible rfl
      rotate_left
      · go_simp
        rfl
      have q0 : wv6.cell? ⟨w.heap.size + 1, 0, none⟩ = some (.slice none 0 0) := (blk_cell (blk_below HT2.out HB6.out) 0).trans rfl
      have f0 := blk_frozen (blk_below HT2.out HB6.out) 0
      have q1 : wv6.cell? ⟨w.heap.size + 1, 1, none⟩ = some (.slice none 0 0) := (blk_cell (blk_below HT2.out HB6.out) 1).trans rfl
      have f1 := blk_frozen (blk_below HT2.out HB6.out) 1
      have q2 : wv6.cell? ⟨w.heap.size + 1, 2, none⟩ = some (.slice none 0 0) := (blk_cell (blk_below HT2.out HB6.out) 2).trans rfl
      have f2 := blk_frozen (blk_below HT2.out HB6.out) 2
      refine last_ (i := 24) (N := none) #[T,T,T,T,T,T,T,T,T,T,T,T,T,T,T,T,T,T,T,T,T,T,T,T,T] rfl rfl (by kernel_rfl) (by decide) (fun K hK => ?_)
      refine skip_ (w1 := ?_) (by rfl) rfl ?_ ?_
      rotate_left
      · go_simp
        rfl
      refine hK.out _ _ ?_
      clear hK K
      refine done_ (by kernel_rfl) ?_
      clear hHeld cb0 cb1 cb2 q0 q1 q2 f0 f1 f2
      go_wp2
      obtain ⟨h3, hl3, hb3⟩ := lend_fin (blk_below HT2.out HB6.out) (Nat.le_succ _) (below_step HBb.out HB6.out) (pw_own_below HS2.out HB6.out) (HR6.out.own ⟨20, .slice A20 (d.length + 2) c20, d ++ [73, 74]⟩ (by simp)) (HR6.out.own ⟨29, .slice A29 (x.length + 2) c29, x ++ [75, 76]⟩ (by simp)) hcs hcap20 hcap29 (.slice A10 st.length c10) (.slice A20 d.length c20) (.slice A29 x.length c29)
      refine bodyPost_ret (results_cell_row rfl _ _ (w.heap.size + 1) 28 _ (0, 0) _ rfl h3 Try.underlying28 rfl (by kernel_rfl)) rfl ?_
      exact ⟨_, _, _, _, _, _, rfl, hl3, hb3⟩
    skip
    refine value_ (w1 := ?_) (v := ?_) (by rfl) rfl ?_ ?_
    rotate_left 2
    · go_simp
      constructor
      · rfl
      rfl
    have hbn : Below wb.heap.size wb (wv1.alloc (.cells #[.int .u8 75, .int .u8 76] 5)) := HB1.out.alloc HB1.out.size _
    obtain ⟨g28, hg28⟩ : ∃ g, g = wv1.heap.size := ⟨_, rfl⟩
    have hrn : Rw (wv1.alloc (.cells #[.int .u8 75, .int .u8 76] 5)) wb.heap.size (⟨28, .slice (some ⟨g28, 0, none⟩) 2 2, [75, 76]⟩ :: [⟨19, .slice (some ⟨g19, 0, none⟩) 2 2, [73, 74]⟩]) := by rw [hg28]; exact HR1.out.lit HB1.out.size 28 [75, 76] (by decide)
    obtain ⟨wv2, hw2⟩ : ∃ w, (wv1.alloc (.cells #[.int .u8 75, .int .u8 76] 5)) = w := ⟨_, rfl⟩
    rw [hw2] at hbn hrn ⊢
    rw [← hg28]
    have HB2 := Hd.mk hbn
    have HR2 : Hd (Rw wv2 wb.heap.size [⟨19, .slice (some ⟨g19, 0, none⟩) 2 2, [73, 74]⟩, ⟨28, .slice (some ⟨g28, 0, none⟩) 2 2, [75, 76]⟩]) := ⟨hrn.sub (by simp)⟩
    clear hbn hrn hw2 hg28
    refine hK.out _ _ ⟨pw_cell_below HB2.out cb0, pw_cell_below HB2.out cb1, pw_cell_below HB2.out cb2⟩ (fun hHeld => ?_)
    clear hK K
    refine norm_ (a' := ?_) ?_ ?_
    rotate_left
    · show Act.put _ (some 28) _ = _
      go_simp
      rfl
    refine one_ (i := 7) (N := some 18) #[T,T,T,T,T,T,T,T,T,F,T,T,T,F,T,T,F,T,F,T,T,T,F,F,F] rfl rfl (by kernel_rfl) (by decide) (fun K hK => ?_)
    obtain ⟨v18, wv3, hrun18, hbn, hrn⟩ := HR2.out.app0 (c := c1) HB2.out.size 18 (Kd.C_below HE2.out.di HB2.out) hdl
    obtain ⟨A18, c18, hv18⟩ : ∃ A c, v18 = .slice A d.length c := own_slice (hrn.own _ List.mem_cons_self)
    subst hv18
    refine value_ (w1 := wv3) (v := .slice A18 d.length c18) (by rfl) rfl ?_ ?_
    · (go_simp; first | done | (rw [hrun18]; rfl))
    have HB3 := Hd.mk (below_step HB2.out hbn)
    have HR3 : Hd (Rw wv3 wb.heap.size [⟨18, .slice A18 d.length c18, d⟩, ⟨19, .slice (some ⟨g19, 0, none⟩) 2 2, [73, 74]⟩, ⟨28, .slice (some ⟨g28, 0, none⟩) 2 2, [75, 76]⟩]) := ⟨hrn.sub (by simp)⟩
    clear hbn hrn hrun18
    refine hK.out _ _ ⟨pw_cell_below HB3.out cb0, pw_cell_below HB3.out cb1, pw_cell_below HB3.out cb2⟩ (fun hHeld => ?_)
    clear hK K
    refine norm_ (a' := ?_) ?_ ?_
    rotate_left
    · show Act.put _ (some 18) _ = _
      go_simp
      rfl
    refine one_ (i := 9) (N := some 20) #[T,T,T,T,T,T,T,T,T,T,T,T,T,F,T,T,F,T,F,T,T,T,F,F,F] rfl rfl (by kernel_rfl) (by decide) (fun K hK => ?_)
    obtain ⟨v20, wv4, hrun20, hbn, hrn⟩ := (HR3.out.sub (rows' := ⟨18, .slice A18 d.length c18, d⟩ :: ⟨19, .slice (some ⟨g19, 0, none⟩) 2 2, [73, 74]⟩ :: [⟨28, .slice (some ⟨g28, 0, none⟩) 2 2, [75, 76]⟩]) (by simp)).app ⟨18, .slice A18 d.length c18, d⟩ ⟨19, .slice (some ⟨g19, 0, none⟩) 2 2, [73, 74]⟩ (by simp) (by simp) HB3.out HB3.out.size 20 (A := some ⟨g19, 0, none⟩) (c := 2) rfl (by simp; omega)
    obtain ⟨A20, c20, hv20⟩ : ∃ A c, v20 = .slice A (d.length + 2) c := by have := own_slice (hrn.own _ List.mem_cons_self); simpa using this
    subst hv20
    have hcap20 : d.length + 2 ≤ c20 := by have := own_le (hrn.own _ List.mem_cons_self); simpa using this
    have hcap20b : d.length ≤ c20 := by omega
    have hrun20' : (Builtin.append_ #[25, 25] 25 #[.slice A18 d.length c18, .slice (some ⟨g19, 0, none⟩) 2 2]).run Try.prog wv3 = .ok (.slice A20 (d.length + 2) c20) wv4 := hrun20
    refine value_ (w1 := wv4) (v := .slice A20 (d.length + 2) c20) (by rfl) rfl ?_ ?_
    · (go_simp; first | done | (rw [hrun20']; rfl))
    have HB4 := Hd.mk hbn
    have HR4 : Hd (Rw wv4 wb.heap.size [⟨19, .slice (some ⟨g19, 0, none⟩) 2 2, [73, 74]⟩, ⟨20, .slice A20 (d.length + 2) c20, d ++ [73, 74]⟩, ⟨28, .slice (some ⟨g28, 0, none⟩) 2 2, [75, 76]⟩]) := ⟨hrn.sub (by simp)⟩
    clear hbn hrn hrun20 hrun20'
    refine hK.out _ _ ⟨pw_cell_below HB4.out cb0, pw_cell_below HB4.out cb1, pw_cell_below HB4.out cb2⟩ (fun hHeld => ?_)
    clear hK K
    refine norm_ (a' := ?_) ?_ ?_
    rotate_left
    · show Act.put _ (some 20) _ = _
      go_simp
      rfl
    refine pure_ (i := 13) (N := some 24) (v := ?_) (a' := ?_) #[T,T,T,T,T,T,T,T,T,T,T,T,T,T,T,T,F,T,F,T,T,T,F,F,F] rfl rfl (by kernel_rfl) (fun _ _ _ h => h) (Or.inl ⟨by rfl, ?_⟩) ?_ ?_
    rotate_left
    · intro w'
      go_simp
      with_reducible rfl
    rotate_left
    · go_simp
      rfl
    refine one_ (i := 16) (N := some 27) #[T,T,T,T,T,T,T,T,T,T,T,T,T,T,T,T,T,T,F,T,T,T,F,F,F] rfl rfl (by kernel_rfl) (by decide) (fun K hK => ?_)
    obtain ⟨v27, wv5, hrun27, hbn, hrn⟩ := HR4.out.app0 (c := c2) HB4.out.size 27 (Kd.C_below HE2.out.ex HB4.out) hxl
    obtain ⟨A27, c27, hv27⟩ : ∃ A c, v27 = .slice A x.length c := own_slice (hrn.own _ List.mem_cons_self)
    subst hv27
    refine value_ (w1 := wv5) (v := .slice A27 x.length c27) (by rfl) rfl ?_ ?_
    · (go_simp; first | done | (rw [hrun27]; rfl))
    have HB5 := Hd.mk (below_step HB4.out hbn)
    have HR5 : Hd (Rw wv5 wb.heap.size [⟨19, .slice (some ⟨g19, 0, none⟩) 2 2, [73, 74]⟩, ⟨20, .slice A20 (d.length + 2) c20, d ++ [73, 74]⟩, ⟨27, .slice A27 x.length c27, x⟩, ⟨28, .slice (some ⟨g28, 0, none⟩) 2 2, [75, 76]⟩]) := ⟨hrn.sub (by simp)⟩
    clear hbn hrn hrun27
    refine hK.out _ _ ⟨pw_cell_below HB5.out cb0, pw_cell_below HB5.out cb1, pw_cell_below HB5.out cb2⟩ (fun hHeld => ?_)
    clear hK K
    refine norm_ (a' := ?_) ?_ ?_
    rotate_left
    · show Act.put _ (some 27) _ = _
      go_simp
      rfl
    refine one_ (i := 18) (N := some 29) #[T,T,T,T,T,T,T,T,T,T,T,T,T,T,T,T,T,T,T,T,T,T,F,F,F] rfl rfl (by kernel_rfl) (by decide) (fun K hK => ?_)
    obtain ⟨v29, wv6, hrun29, hbn, hrn⟩ := (HR5.out.sub (rows' := ⟨27, .slice A27 x.length c27, x⟩ :: ⟨28, .slice (some ⟨g28, 0, none⟩) 2 2, [75, 76]⟩ :: [⟨19, .slice (some ⟨g19, 0, none⟩) 2 2, [73, 74]⟩, ⟨20, .slice A20 (d.length + 2) c20, d ++ [73, 74]⟩]) (by simp)).app ⟨27, .slice A27 x.length c27, x⟩ ⟨28, .slice (some ⟨g28, 0, none⟩) 2 2, [75, 76]⟩ (by simp) (by simp) HB5.out HB5.out.size 29 (A := some ⟨g28, 0, none⟩) (c := 2) rfl (by simp; omega)
    obtain ⟨A29, c29, hv29⟩ : ∃ A c, v29 = .slice A (x.length + 2) c := by have := own_slice (hrn.own _ List.mem_cons_self); simpa using this
    subst hv29
    have hcap29 : x.length + 2 ≤ c29 := by have := own_le (hrn.own _ List.mem_cons_self); simpa using this
    have hcap29b : x.length ≤ c29 := by omega
    have hrun29' : (Builtin.append_ #[25, 25] 25 #[.slice A27 x.length c27, .slice (some ⟨g28, 0, none⟩) 2 2]).run Try.prog wv5 = .ok (.slice A29 (x.length + 2) c29) wv6 := hrun29
    refine value_ (w1 := wv6) (v := .slice A29 (x.length + 2) c29) (by rfl) rfl ?_ ?_
    · (go_simp; first | done | (rw [hrun29']; rfl))
    have HB6 := Hd.mk hbn
    have HR6 : Hd (Rw wv6 wb.heap.size [⟨19, .slice (some ⟨g19, 0, none⟩) 2 2, [73, 74]⟩, ⟨20, .slice A20 (d.length + 2) c20, d ++ [73, 74]⟩, ⟨28, .slice (some ⟨g28, 0, none⟩) 2 2, [75, 76]⟩, ⟨29, .slice A29 (x.length + 2) c29, x ++ [75, 76]⟩]) := ⟨hrn.sub (by simp)⟩
    clear hbn hrn hrun29 hrun29'
    refine hK.out _ _ ⟨pw_cell_below HB6.out cb0, pw_cell_below HB6.out cb1, pw_cell_below HB6.out cb2⟩ (fun hHeld => ?_)
    clear hK K
    refine norm_ (a' := ?_) ?_ ?_
    rotate_left
    · show Act.put _ (some 29) _ = _
      go_simp
      rfl
    refine pure_ (i := 22) (N := some 33) (v := ?_) (a' := ?_) #[T,T,T,T,T,T,T,T,T,T,T,T,T,T,T,T,T,T,T,T,T,T,T,F,F] rfl rfl (by kernel_rfl) (fun _ _ _ h => h) (Or.inl ⟨by rfl, ?_⟩) ?_ ?_
    rotate_left
    · intro w'
      go_simp
      with_reducible rfl
    rotate_left
    · go_simp
      rfl
    refine pure_ (i := 23) (N := some 34) (v := ?_) (a' := ?_) #[T,T,T,T,T,T,T,T,T,T,T,T,T,T,T,T,T,T,T,T,T,T,T,T,F] rfl rfl (by kernel_rfl) (fun _ _ _ h => h) (Or.inl ⟨by rfl, ?_⟩) ?_ ?_
    rotate_left
    · intro w'
      go_simp
      with_reducible rfl
    rotate_left
    · go_simp
      rfl
    have q0 : wv6.cell? ⟨w.heap.size + 1, 0, none⟩ = some (.slice none 0 0) := (blk_cell (blk_below HT2.out HB6.out) 0).trans rfl
    have f0 := blk_frozen (blk_below HT2.out HB6.out) 0
    have q1 : wv6.cell? ⟨w.heap.size + 1, 1, none⟩ = some (.slice none 0 0) := (blk_cell (blk_below HT2.out HB6.out) 1).trans rfl
    have f1 := blk_frozen (blk_below HT2.out HB6.out) 1
    have q2 : wv6.cell? ⟨w.heap.size + 1, 2, none⟩ = some (.slice none 0 0) := (blk_cell (blk_below HT2.out HB6.out) 2).trans rfl
    have f2 := blk_frozen (blk_below HT2.out HB6.out) 2
    refine last_ (i := 24) (N := none) #[T,T,T,T,T,T,T,T,T,T,T,T,T,T,T,T,T,T,T,T,T,T,T,T,T] rfl rfl (by kernel_rfl) (by decide) (fun K hK => ?_)
    refine skip_ (w1 := ?_) (by rfl) rfl ?_ ?_
    rotate_left
    · go_simp
      rfl
    refine hK.out _ _ ?_
    clear hK K
    refine done_ (by kernel_rfl) ?_
    clear hHeld cb0 cb1 cb2 q0 q1 q2 f0 f1 f2
    go_wp2
    obtain ⟨h3, hl3, hb3⟩ := lend_fin (blk_below HT2.out HB6.out) (Nat.le_succ _) (below_step HBb.out HB6.out) (pw_own_below HS2.out HB6.out) (HR6.out.own ⟨20, .slice A20 (d.length + 2) c20, d ++ [73, 74]⟩ (by simp)) (HR6.out.own ⟨29, .slice A29 (x.length + 2) c29, x ++ [75, 76]⟩ (by simp)) hcs hcap20 hcap29 (.slice A10 st.length c10) (.slice A20 d.length c20) (.slice A29 x.length c29)
    refine bodyPost_ret (results_cell_row rfl _ _ (w.heap.size + 1) 28 _ (0, 0) _ rfl h3 Try.underlying28 rfl (by kernel_rfl)) rfl ?_
    exact ⟨_, _, _, _, _, _, rfl, hl3, hb3⟩
  skip
  refine value_ (w1 := ?_) (v := ?_) (by rfl) rfl ?_ ?_
  rotate_left 2
  · go_simp
    constructor
    · rfl
    rfl
  have hbn : Below wb.heap.size wb (wb.alloc (.cells #[.int .u8 75, .int .u8 76] 5)) := HB0.out.alloc HB0.out.size _
  obtain ⟨g28, hg28⟩ : ∃ g, g = wb.heap.size := ⟨_, rfl⟩
  have hrn : Rw (wb.alloc (.cells #[.int .u8 75, .int .u8 76] 5)) wb.heap.size (⟨28, .slice (some ⟨g28, 0, none⟩) 2 2, [75, 76]⟩ :: []) := by rw [hg28]; exact HR0.out.lit HB0.out.size 28 [75, 76] (by decide)
  obtain ⟨wv1, hw1⟩ : ∃ w, (wb.alloc (.cells #[.int .u8 75, .int .u8 76] 5)) = w := ⟨_, rfl⟩
  rw [hw1] at hbn hrn ⊢
  rw [← hg28]
  have HB1 := Hd.mk hbn
  have HR1 : Hd (Rw wv1 wb.heap.size [⟨28, .slice (some ⟨g28, 0, none⟩) 2 2, [75, 76]⟩]) := ⟨hrn.sub (by simp)⟩
  clear hbn hrn hw1 hg28
  refine hK.out _ _ ⟨pw_cell_below HB1.out cb0, pw_cell_below HB1.out cb1, pw_cell_below HB1.out cb2⟩ (fun hHeld => ?_)
  clear hK K
  refine norm_ (a' := ?_) ?_ ?_
  rotate_left
  · show Act.put _ (some 28) _ = _
    go_simp
    rfl
  refine two_ (i := 7) (j := 8) (Ni := some 18) (Nj := some 19) #[T,T,T,T,T,T,T,T,F,F,T,T,T,F,T,T,F,T,F,T,T,T,F,F,F] #[T,T,T,T,T,T,T,F,T,F,T,T,T,F,T,T,F,T,F,T,T,T,F,F,F] rfl rfl rfl rfl (by kernel_rfl) (by decide) (by decide) (fun K hK => ?_) (fun K hK => ?_)
  · skip
    obtain ⟨v18, wv2, hrun18, hbn, hrn⟩ := HR1.out.app0 (c := c1) HB1.out.size 18 (Kd.C_below HE2.out.di HB1.out) hdl
    obtain ⟨A18, c18, hv18⟩ : ∃ A c, v18 = .slice A d.length c := own_slice (hrn.own _ List.mem_cons_self)
    subst hv18
    refine value_ (w1 := wv2) (v := .slice A18 d.length c18) (by rfl) rfl ?_ ?_
    · (go_simp; first | done | (rw [hrun18]; rfl))
    have HB2 := Hd.mk (below_step HB1.out hbn)
    have HR2 : Hd (Rw wv2 wb.heap.size [⟨18, .slice A18 d.length c18, d⟩, ⟨28, .slice (some ⟨g28, 0, none⟩) 2 2, [75, 76]⟩]) := ⟨hrn.sub (by simp)⟩
    clear hbn hrn hrun18
    refine hK.out _ _ ⟨pw_cell_below HB2.out cb0, pw_cell_below HB2.out cb1, pw_cell_below HB2.out cb2⟩ (fun hHeld => ?_)
    clear hK K
    refine norm_ (a' := ?_) ?_ ?_
    rotate_left
    · show Act.put _ (some 18) _ = _
      go_simp
      rfl
    refine one_ (i := 8) (N := some 19) #[T,T,T,T,T,T,T,T,T,F,T,T,T,F,T,T,F,T,F,T,T,T,F,F,F] rfl rfl (by kernel_rfl) (by decide) (fun K hK => ?_)
    refine value_ (w1 := ?_) (v := ?_) (by rfl) rfl ?_ ?_
    rotate_left 2
    · go_simp
      constructor
      · rfl
      rfl
    have hbn : Below wb.heap.size wb (wv2.alloc (.cells #[.int .u8 73, .int .u8 74] 5)) := HB2.out.alloc HB2.out.size _
    obtain ⟨g19, hg19⟩ : ∃ g, g = wv2.heap.size := ⟨_, rfl⟩
    have hrn : Rw (wv2.alloc (.cells #[.int .u8 73, .int .u8 74] 5)) wb.heap.size (⟨19, .slice (some ⟨g19, 0, none⟩) 2 2, [73, 74]⟩ :: [⟨18, .slice A18 d.length c18, d⟩, ⟨28, .slice (some ⟨g28, 0, none⟩) 2 2, [75, 76]⟩]) := by rw [hg19]; exact HR2.out.lit HB2.out.size 19 [73, 74] (by decide)
    obtain ⟨wv3, hw3⟩ : ∃ w, (wv2.alloc (.cells #[.int .u8 73, .int .u8 74] 5)) = w := ⟨_, rfl⟩
    rw [hw3] at hbn hrn ⊢
    rw [← hg19]
    have HB3 := Hd.mk hbn
    have HR3 : Hd (Rw wv3 wb.heap.size [⟨18, .slice A18 d.length c18, d⟩, ⟨19, .slice (some ⟨g19, 0, none⟩) 2 2, [73, 74]⟩, ⟨28, .slice (some ⟨g28, 0, none⟩) 2 2, [75, 76]⟩]) := ⟨hrn.sub (by simp)⟩
    clear hbn hrn hw3 hg19
    refine hK.out _ _ ⟨pw_cell_below HB3.out cb0, pw_cell_below HB3.out cb1, pw_cell_below HB3.out cb2⟩ (fun hHeld => ?_)
    clear hK K
    refine norm_ (a' := ?_) ?_ ?_
    rotate_left
    · show Act.put _ (some 19) _ = _
      go_simp
      rfl
    refine one_ (i := 9) (N := some 20) #[T,T,T,T,T,T,T,T,T,T,T,T,T,F,T,T,F,T,F,T,T,T,F,F,F] rfl rfl (by kernel_rfl) (by decide) (fun K hK => ?_)
    obtain ⟨v20, wv4, hrun20, hbn, hrn⟩ := (HR3.out.sub (rows' := ⟨18, .slice A18 d.length c18, d⟩ :: ⟨19, .slice (some ⟨g19, 0, none⟩) 2 2, [73, 74]⟩ :: [⟨28, .slice (some ⟨g28, 0, none⟩) 2 2, [75, 76]⟩]) (by simp)).app ⟨18, .slice A18 d.length c18, d⟩ ⟨19, .slice (some ⟨g19, 0, none⟩) 2 2, [73, 74]⟩ (by simp) (by simp) HB3.out HB3.out.size 20 (A := some ⟨g19, 0, none⟩) (c := 2) rfl (by simp; omega)
    obtain ⟨A20, c20, hv20⟩ : ∃ A c, v20 = .slice A (d.length + 2) c := by have := own_slice (hrn.own _ List.mem_cons_self); simpa using this
    subst hv20
    have hcap20 : d.length + 2 ≤ c20 := by have := own_le (hrn.own _ List.mem_cons_self); simpa using this
    have hcap20b : d.length ≤ c20 := by omega
    have hrun20' : (Builtin.append_ #[25, 25] 25 #[.slice A18 d.length c18, .slice (some ⟨g19, 0, none⟩) 2 2]).run Try.prog wv3 = .ok (.slice A20 (d.length + 2) c20) wv4 := hrun20
    refine value_ (w1 := wv4) (v := .slice A20 (d.length + 2) c20) (by rfl) rfl ?_ ?_
    · (go_simp; first | done | (rw [hrun20']; rfl))
    have HB4 := Hd.mk hbn
    have HR4 : Hd (Rw wv4 wb.heap.size [⟨19, .slice (some ⟨g19, 0, none⟩) 2 2, [73, 74]⟩, ⟨20, .slice A20 (d.length + 2) c20, d ++ [73, 74]⟩, ⟨28, .slice (some ⟨g28, 0, none⟩) 2 2, [75, 76]⟩]) := ⟨hrn.sub (by simp)⟩
    clear hbn hrn hrun20 hrun20'
    refine hK.out _ _ ⟨pw_cell_below HB4.out cb0, pw_cell_below HB4.out cb1, pw_cell_below HB4.out cb2⟩ (fun hHeld => ?_)
    clear hK K
    refine norm_ (a' := ?_) ?_ ?_
    rotate_left
    · show Act.put _ (some 20) _ = _
      go_simp
      rfl
    refine pure_ (i := 13) (N := some 24) (v := ?_) (a' := ?_) #[T,T,T,T,T,T,T,T,T,T,T,T,T,T,T,T,F,T,F,T,T,T,F,F,F] rfl rfl (by kernel_rfl) (fun _ _ _ h => h) (Or.inl ⟨by rfl, ?_⟩) ?_ ?_
    rotate_left
    · intro w'
      go_simp
      with_reducible rfl
    rotate_left
    · go_simp
      rfl
    refine one_ (i := 16) (N := some 27) #[T,T,T,T,T,T,T,T,T,T,T,T,T,T,T,T,T,T,F,T,T,T,F,F,F] rfl rfl (by kernel_rfl) (by decide) (fun K hK => ?_)
    obtain ⟨v27, wv5, hrun27, hbn, hrn⟩ := HR4.out.app0 (c := c2) HB4.out.size 27 (Kd.C_below HE2.out.ex HB4.out) hxl
    obtain ⟨A27, c27, hv27⟩ : ∃ A c, v27 = .slice A x.length c := own_slice (hrn.own _ List.mem_cons_self)
    subst hv27
    refine value_ (w1 := wv5) (v := .slice A27 x.length c27) (by rfl) rfl ?_ ?_
    · (go_simp; first | done | (rw [hrun27]; rfl))
    have HB5 := Hd.mk (below_step HB4.out hbn)
    have HR5 : Hd (Rw wv5 wb.heap.size [⟨19, .slice (some ⟨g19, 0, none⟩) 2 2, [73, 74]⟩, ⟨20, .slice A20 (d.length + 2) c20, d ++ [73, 74]⟩, ⟨27, .slice A27 x.length c27, x⟩, ⟨28, .slice (some ⟨g28, 0, none⟩) 2 2, [75, 76]⟩]) := ⟨hrn.sub (by simp)⟩
    clear hbn hrn hrun27
    refine hK.out _ _ ⟨pw_cell_below HB5.out cb0, pw_cell_below HB5.out cb1, pw_cell_below HB5.out cb2⟩ (fun hHeld => ?_)
    clear hK K
    refine norm_ (a' := ?_) ?_ ?_
    rotate_left
    · show Act.put _ (some 27) _ = _
      go_simp
      rfl
    refine one_ (i := 18) (N := some 29) #[T,T,T,T,T,T,T,T,T,T,T,T,T,T,T,T,T,T,T,T,T,T,F,F,F] rfl rfl (by kernel_rfl) (by decide) (fun K hK => ?_)
    obtain ⟨v29, wv6, hrun29, hbn, hrn⟩ := (HR5.out.sub (rows' := ⟨27, .slice A27 x.length c27, x⟩ :: ⟨28, .slice (some ⟨g28, 0, none⟩) 2 2, [75, 76]⟩ :: [⟨19, .slice (some ⟨g19, 0, none⟩) 2 2, [73, 74]⟩, ⟨20, .slice A20 (d.length + 2) c20, d ++ [73, 74]⟩]) (by simp)).app ⟨27, .slice A27 x.length c27, x⟩ ⟨28, .slice (some ⟨g28, 0, none⟩) 2 2, [75, 76]⟩ (by simp) (by simp) HB5.out HB5.out.size 29 (A := some ⟨g28, 0, none⟩) (c := 2) rfl (by simp; omega)
    obtain ⟨A29, c29, hv29⟩ : ∃ A c, v29 = .slice A (x.length + 2) c := by have := own_slice (hrn.own _ List.mem_cons_self); simpa using this
    subst hv29
    have hcap29 : x.length + 2 ≤ c29 := by have := own_le (hrn.own _ List.mem_cons_self); simpa using this
    have hcap29b : x.length ≤ c29 := by omega
    have hrun29' : (Builtin.append_ #[25, 25] 25 #[.slice A27 x.length c27, .slice (some ⟨g28, 0, none⟩) 2 2]).run Try.prog wv5 = .ok (.slice A29 (x.length + 2) c29) wv6 := hrun29
    refine value_ (w1 := wv6) (v := .slice A29 (x.length + 2) c29) (by rfl) rfl ?_ ?_
    · (go_simp; first | done | (rw [hrun29']; rfl))
    have HB6 := Hd.mk hbn
    have HR6 : Hd (Rw wv6 wb.heap.size [⟨19, .slice (some ⟨g19, 0, none⟩) 2 2, [73, 74]⟩, ⟨20, .slice A20 (d.length + 2) c20, d ++ [73, 74]⟩, ⟨28, .slice (some ⟨g28, 0, none⟩) 2 2, [75, 76]⟩, ⟨29, .slice A29 (x.length + 2) c29, x ++ [75, 76]⟩]) := ⟨hrn.sub (by simp)⟩
    clear hbn hrn hrun29 hrun29'
    refine hK.out _ _ ⟨pw_cell_below HB6.out cb0, pw_cell_below HB6.out cb1, pw_cell_below HB6.out cb2⟩ (fun hHeld => ?_)
    clear hK K
    refine norm_ (a' := ?_) ?_ ?_
    rotate_left
    · show Act.put _ (some 29) _ = _
      go_simp
      rfl
    refine pure_ (i := 22) (N := some 33) (v := ?_) (a' := ?_) #[T,T,T,T,T,T,T,T,T,T,T,T,T,T,T,T,T,T,T,T,T,T,T,F,F] rfl rfl (by kernel_rfl) (fun _ _ _ h => h) (Or.inl ⟨by rfl, ?_⟩) ?_ ?_
    rotate_left
    · intro w'
      go_simp
      with_reducible rfl
    rotate_left
    · go_simp
      rfl
    refine pure_ (i := 23) (N := some 34) (v := ?_) (a' := ?_) #[T,T,T,T,T,T,T,T,T,T,T,T,T,T,T,T,T,T,T,T,T,T,T,T,F] rfl rfl (by kernel_rfl) (fun _ _ _ h => h) (Or.inl ⟨by rfl, ?_⟩) ?_ ?_
    rotate_left
    · intro w'
      go_simp
      with_reducible rfl
    rotate_left
    · go_simp
      rfl
    have q0 : wv6.cell? ⟨w.heap.size + 1, 0, none⟩ = some (.slice none 0 0) := (blk_cell (blk_below HT2.out HB6.out) 0).trans rfl
    have f0 := blk_frozen (blk_below HT2.out HB6.out) 0
    have q1 : wv6.cell? ⟨w.heap.size + 1, 1, none⟩ = some (.slice none 0 0) := (blk_cell (blk_below HT2.out HB6.out) 1).trans rfl
    have f1 := blk_frozen (blk_below HT2.out HB6.out) 1
    have q2 : wv6.cell? ⟨w.heap.size + 1, 2, none⟩ = some (.slice none 0 0) := (blk_cell (blk_below HT2.out HB6.out) 2).trans rfl
    have f2 := blk_frozen (blk_below HT2.out HB6.out) 2
    refine last_ (i := 24) (N := none) #[T,T,T,T,T,T,T,T,T,T,T,T,T,T,T,T,T,T,T,T,T,T,T,T,T] rfl rfl (by kernel_rfl) (by decide) (fun K hK => ?_)
    refine skip_ (w1 := ?_) (by rfl) rfl ?_ ?_
    rotate_left
    · go_simp
      rfl
    refine hK.out _ _ ?_
    clear hK K
    refine done_ (by kernel_rfl) ?_
    clear hHeld cb0 cb1 cb2 q0 q1 q2 f0 f1 f2
    go_wp2
    obtain ⟨h3, hl3, hb3⟩ := lend_fin (blk_below HT2.out HB6.out) (Nat.le_succ _) (below_step HBb.out HB6.out) (pw_own_below HS2.out HB6.out) (HR6.out.own ⟨20, .slice A20 (d.length + 2) c20, d ++ [73, 74]⟩ (by simp)) (HR6.out.own ⟨29, .slice A29 (x.length + 2) c29, x ++ [75, 76]⟩ (by simp)) hcs hcap20 hcap29 (.slice A10 st.length c10) (.slice A20 d.length c20) (.slice A29 x.length c29)
    refine bodyPost_ret (results_cell_row rfl _ _ (w.heap.size + 1) 28 _ (0, 0) _ rfl h3 Try.underlying28 rfl (by kernel_rfl)) rfl ?_
    exact ⟨_, _, _, _, _, _, rfl, hl3, hb3⟩
  skip
  refine value_ (w1 := ?_) (v := ?_) (by rfl) rfl ?_ ?_
  rotate_left 2
  · go_simp
    constructor
    · rfl
    rfl
  have hbn : Below wb.heap.size wb (wv1.alloc (.cells #[.int .u8 73, .int .u8 74] 5)) := HB1.out.alloc HB1.out.size _
  obtain ⟨g19, hg19⟩ : ∃ g, g = wv1.heap.size := ⟨_, rfl⟩
  have hrn : Rw (wv1.alloc (.cells #[.int .u8 73, .int .u8 74] 5)) wb.heap.size (⟨19, .slice (some ⟨g19, 0, none⟩) 2 2, [73, 74]⟩ :: [⟨28, .slice (some ⟨g28, 0, none⟩) 2 2, [75, 76]⟩]) := by rw [hg19]; exact HR1.out.lit HB1.out.size 19 [73, 74] (by decide)
  obtain ⟨wv2, hw2⟩ : ∃ w, (wv1.alloc (.cells #[.int .u8 73, .int .u8 74] 5)) = w := ⟨_, rfl⟩
  rw [hw2] at hbn hrn ⊢
  rw [← hg19]
  have HB2 := Hd.mk hbn
  have HR2 : Hd (Rw wv2 wb.heap.size [⟨19, .slice (some ⟨g19, 0, none⟩) 2 2, [73, 74]⟩, ⟨28, .slice (some ⟨g28, 0, none⟩) 2 2, [75, 76]⟩]) := ⟨hrn.sub (by simp)⟩
  clear hbn hrn hw2 hg19
  refine hK.out _ _ ⟨pw_cell_below HB2.out cb0, pw_cell_below HB2.out cb1, pw_cell_below HB2.out cb2⟩ (fun hHeld => ?_)
  clear hK K
  refine norm_ (a' := ?_) ?_ ?_
  rotate_left
  · show Act.put _ (some 19) _ = _
    go_simp
    rfl
  refine one_ (i := 7) (N := some 18) #[T,T,T,T,T,T,T,T,T,F,T,T,T,F,T,T,F,T,F,T,T,T,F,F,F] rfl rfl (by kernel_rfl) (by decide) (fun K hK => ?_)
  obtain ⟨v18, wv3, hrun18, hbn, hrn⟩ := HR2.out.app0 (c := c1) HB2.out.size 18 (Kd.C_below HE2.out.di HB2.out) hdl
  obtain ⟨A18, c18, hv18⟩ : ∃ A c, v18 = .slice A d.length c := own_slice (hrn.own _ List.mem_cons_self)
  subst hv18
  refine value_ (w1 := wv3) (v := .slice A18 d.length c18) (by rfl) rfl ?_ ?_
  · (go_simp; first | done | (rw [hrun18]; rfl))
  have HB3 := Hd.mk (below_step HB2.out hbn)
  have HR3 : Hd (Rw wv3 wb.heap.size [⟨18, .slice A18 d.length c18, d⟩, ⟨19, .slice (some ⟨g19, 0, none⟩) 2 2, [73, 74]⟩, ⟨28, .slice (some ⟨g28, 0, none⟩) 2 2, [75, 76]⟩]) := ⟨hrn.sub (by simp)⟩
  clear hbn hrn hrun18
  refine hK.out _ _ ⟨pw_cell_below HB3.out cb0, pw_cell_below HB3.out cb1, pw_cell_below HB3.out cb2⟩ (fun hHeld => ?_)
  clear hK K
  refine norm_ (a' := ?_) ?_ ?_
  rotate_left
  · show Act.put _ (some 18) _ = _
    go_simp
    rfl
  refine one_ (i := 9) (N := some 20) #[T,T,T,T,T,T,T,T,T,T,T,T,T,F,T,T,F,T,F,T,T,T,F,F,F] rfl rfl (by kernel_rfl) (by decide) (fun K hK => ?_)
  obtain ⟨v20, wv4, hrun20, hbn, hrn⟩ := (HR3.out.sub (rows' := ⟨18, .slice A18 d.length c18, d⟩ :: ⟨19, .slice (some ⟨g19, 0, none⟩) 2 2, [73, 74]⟩ :: [⟨28, .slice (some ⟨g28, 0, none⟩) 2 2, [75, 76]⟩]) (by simp)).app ⟨18, .slice A18 d.length c18, d⟩ ⟨19, .slice (some ⟨g19, 0, none⟩) 2 2, [73, 74]⟩ (by simp) (by simp) HB3.out HB3.out.size 20 (A := some ⟨g19, 0, none⟩) (c := 2) rfl (by simp; omega)
  obtain ⟨A20, c20, hv20⟩ : ∃ A c, v20 = .slice A (d.length + 2) c := by have := own_slice (hrn.own _ List.mem_cons_self); simpa using this
  subst hv20
  have hcap20 : d.length + 2 ≤ c20 := by have := own_le (hrn.own _ List.mem_cons_self); simpa using this
  have hcap20b : d.length ≤ c20 := by omega
  have hrun20' : (Builtin.append_ #[25, 25] 25 #[.slice A18 d.length c18, .slice (some ⟨g19, 0, none⟩) 2 2]).run Try.prog wv3 = .ok (.slice A20 (d.length + 2) c20) wv4 := hrun20
  refine value_ (w1 := wv4) (v := .slice A20 (d.length + 2) c20) (by rfl) rfl ?_ ?_
  · (go_simp; first | done | (rw [hrun20']; rfl))
  have HB4 := Hd.mk hbn
  have HR4 : Hd (Rw wv4 wb.heap.size [⟨19, .slice (some ⟨g19, 0, none⟩) 2 2, [73, 74]⟩, ⟨20, .slice A20 (d.length + 2) c20, d ++ [73, 74]⟩, ⟨28, .slice (some ⟨g28, 0, none⟩) 2 2, [75, 76]⟩]) := ⟨hrn.sub (by simp)⟩
  clear hbn hrn hrun20 hrun20'
  refine hK.out _ _ ⟨pw_cell_below HB4.out cb0, pw_cell_below HB4.out cb1, pw_cell_below HB4.out cb2⟩ (fun hHeld => ?_)
  clear hK K
  refine norm_ (a' := ?_) ?_ ?_
  rotate_left
  · show Act.put _ (some 20) _ = _
    go_simp
    rfl
  refine pure_ (i := 13) (N := some 24) (v := ?_) (a' := ?_) #[T,T,T,T,T,T,T,T,T,T,T,T,T,T,T,T,F,T,F,T,T,T,F,F,F] rfl rfl (by kernel_rfl) (fun _ _ _ h => h) (Or.inl ⟨by rfl, ?_⟩) ?_ ?_
  rotate_left
  · intro w'
    go_simp
    with_reducible rfl
  rotate_left
  · go_simp
    rfl
  refine one_ (i := 16) (N := some 27) #[T,T,T,T,T,T,T,T,T,T,T,T,T,T,T,T,T,T,F,T,T,T,F,F,F] rfl rfl (by kernel_rfl) (by decide) (fun K hK => ?_)
  obtain ⟨v27, wv5, hrun27, hbn, hrn⟩ := HR4.out.app0 (c := c2) HB4.out.size 27 (Kd.C_below HE2.out.ex HB4.out) hxl
  obtain ⟨A27, c27, hv27⟩ : ∃ A c, v27 = .slice A x.length c := own_slice (hrn.own _ List.mem_cons_self)
  subst hv27
  refine value_ (w1 := wv5) (v := .slice A27 x.length c27) (by rfl) rfl ?_ ?_
  · (go_simp; first | done | (rw [hrun27]; rfl))
  have HB5 := Hd.mk (below_step HB4.out hbn)
  have HR5 : Hd (Rw wv5 wb.heap.size [⟨19, .slice (some ⟨g19, 0, none⟩) 2 2, [73, 74]⟩, ⟨20, .slice A20 (d.length + 2) c20, d ++ [73, 74]⟩, ⟨27, .slice A27 x.length c27, x⟩, ⟨28, .slice (some ⟨g28, 0, none⟩) 2 2, [75, 76]⟩]) := ⟨hrn.sub (by simp)⟩
  clear hbn hrn hrun27
  refine hK.out _ _ ⟨pw_cell_below HB5.out cb0, pw_cell_below HB5.out cb1, pw_cell_below HB5.out cb2⟩ (fun hHeld => ?_)
  clear hK K
  refine norm_ (a' := ?_) ?_ ?_
  rotate_left
  · show Act.put _ (some 27) _ = _
    go_simp
    rfl
  refine one_ (i := 18) (N := some 29) #[T,T,T,T,T,T,T,T,T,T,T,T,T,T,T,T,T,T,T,T,T,T,F,F,F] rfl rfl (by kernel_rfl) (by decide) (fun K hK => ?_)
  obtain ⟨v29, wv6, hrun29, hbn, hrn⟩ := (HR5.out.sub (rows' := ⟨27, .slice A27 x.length c27, x⟩ :: ⟨28, .slice (some ⟨g28, 0, none⟩) 2 2, [75, 76]⟩ :: [⟨19, .slice (some ⟨g19, 0, none⟩) 2 2, [73, 74]⟩, ⟨20, .slice A20 (d.length + 2) c20, d ++ [73, 74]⟩]) (by simp)).app ⟨27, .slice A27 x.length c27, x⟩ ⟨28, .slice (some ⟨g28, 0, none⟩) 2 2, [75, 76]⟩ (by simp) (by simp) HB5.out HB5.out.size 29 (A := some ⟨g28, 0, none⟩) (c := 2) rfl (by simp; omega)
  obtain ⟨A29, c29, hv29⟩ : ∃ A c, v29 = .slice A (x.length + 2) c := by have := own_slice (hrn.own _ List.mem_cons_self); simpa using this
  subst hv29
  have hcap29 : x.length + 2 ≤ c29 := by have := own_le (hrn.own _ List.mem_cons_self); simpa using this
  have hcap29b : x.length ≤ c29 := by omega
  have hrun29' : (Builtin.append_ #[25, 25] 25 #[.slice A27 x.length c27, .slice (some ⟨g28, 0, none⟩) 2 2]).run Try.prog wv5 = .ok (.slice A29 (x.length + 2) c29) wv6 := hrun29
  refine value_ (w1 := wv6) (v := .slice A29 (x.length + 2) c29) (by rfl) rfl ?_ ?_
  · (go_simp; first | done | (rw [hrun29']; rfl))
  have HB6 := Hd.mk hbn
  have HR6 : Hd (Rw wv6 wb.heap.size [⟨19, .slice (some ⟨g19, 0, none⟩) 2 2, [73, 74]⟩, ⟨20, .slice A20 (d.length + 2) c20, d ++ [73, 74]⟩, ⟨28, .slice (some ⟨g28, 0, none⟩) 2 2, [75, 76]⟩, ⟨29, .slice A29 (x.length + 2) c29, x ++ [75, 76]⟩]) := ⟨hrn.sub (by simp)⟩
  clear hbn hrn hrun29 hrun29'
  refine hK.out _ _ ⟨pw_cell_below HB6.out cb0, pw_cell_below HB6.out cb1, pw_cell_below HB6.out cb2⟩ (fun hHeld => ?_)
  clear hK K
  refine norm_ (a' := ?_) ?_ ?_
  rotate_left
  · show Act.put _ (some 29) _ = _
    go_simp
    rfl
  refine pure_ (i := 22) (N := some 33) (v := ?_) (a' := ?_) #[T,T,T,T,T,T,T,T,T,T,T,T,T,T,T,T,T,T,T,T,T,T,T,F,F] rfl rfl (by kernel_rfl) (fun _ _ _ h => h) (Or.inl ⟨by rfl, ?_⟩) ?_ ?_
  rotate_left
  · intro w'
    go_simp
    with_reducible rfl
  rotate_left
  · go_simp
    rfl
  refine pure_ (i := 23) (N := some 34) (v := ?_) (a' := ?_) #[T,T,T,T,T,T,T,T,T,T,T,T,T,T,T,T,T,T,T,T,T,T,T,T,F] rfl rfl (by kernel_rfl) (fun _ _ _ h => h) (Or.inl ⟨by rfl, ?_⟩) ?_ ?_
  rotate_left
  · intro w'
    go_simp
    with_reducible rfl
  rotate_left
  · go_simp
    rfl
  have q0 : wv6.cell? ⟨w.heap.size + 1, 0, none⟩ = some (.slice none 0 0) := (blk_cell (blk_below HT2.out HB6.out) 0).trans rfl
  have f0 := blk_frozen (blk_below HT2.out HB6.out) 0
  have q1 : wv6.cell? ⟨w.heap.size + 1, 1, none⟩ = some (.slice none 0 0) := (blk_cell (blk_below HT2.out HB6.out) 1).trans rfl
  have f1 := blk_frozen (blk_below HT2.out HB6.out) 1
  have q2 : wv6.cell? ⟨w.heap.size + 1, 2, none⟩ = some (.slice none 0 0) := (blk_cell (blk_below HT2.out HB6.out) 2).trans rfl
  have f2 := blk_frozen (blk_below HT2.out HB6.out) 2
  refine last_ (i := 24) (N := none) #[T,T,T,T,T,T,T,T,T,T,T,T,T,T,T,T,T,T,T,T,T,T,T,T,T] rfl rfl (by kernel_rfl) (by decide) (fun K hK => ?_)
  refine skip_ (w1 := ?_) (by rfl) rfl ?_ ?_
  rotate_left
  · go_simp
    rfl
  refine hK.out _ _ ?_
  clear hK K
  refine done_ (by kernel_rfl) ?_
  clear hHeld cb0 cb1 cb2 q0 q1 q2 f0 f1 f2
  go_wp2
  obtain ⟨h3, hl3, hb3⟩ := lend_fin (blk_below HT2.out HB6.out) (Nat.le_succ _) (below_step HBb.out HB6.out) (pw_own_below HS2.out HB6.out) (HR6.out.own ⟨20, .slice A20 (d.length + 2) c20, d ++ [73, 74]⟩ (by simp)) (HR6.out.own ⟨29, .slice A29 (x.length + 2) c29, x ++ [75, 76]⟩ (by simp)) hcs hcap20 hcap29 (.slice A10 st.length c10) (.slice A20 d.length c20) (.slice A29 x.length c29)
  refine bodyPost_ret (results_cell_row rfl _ _ (w.heap.size + 1) 28 _ (0, 0) _ rfl h3 Try.underlying28 rfl (by kernel_rfl)) rfl ?_
  exact ⟨_, _, _, _, _, _, rfl, hl3, hb3⟩
end Go.Proofs.Ytemlbjpefomboaa
