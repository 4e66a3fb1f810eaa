/- cutter: the walk of CutterCuts. -/
import Derived.Test.YtinlfoblpgpikaaOe
namespace Go.Proofs.Ytinlfoblpgpikaa
open Go.RowKit Go.ChangeShapes Go.WideShapes Go.Shelf Go.Proofs.YtinlfoblpgpikaaW.PrintWords Go.Proofs.YtinlfoblpgpikaaW.PrintLast Go.Proofs.YtinlfoblpgpikaaW.PrintMore Go.Proofs.Ytinlfoblpgpikaa.Pr
set_option linter.unusedVariables false
set_option linter.unusedSimpArgs false
attribute [-go_sem] Builtin.append_
set_option maxRecDepth 100000 in
set_option maxHeartbeats 32000000 in
theorem walk_cutterCuts (A0 : Option Addr) (c0 : Nat) (L : List S81) (A1 : Option Addr) (c1 : Nat) (d : List Int) (A2 : Option Addr) (c2 : Nat) (x : List Int) (win : Int) (w : World) (h : EdU w A0 c0 L A1 c1 d A2 c2 x) (hw : (Lit.int .i64 win).wf = true) :
    Calls Try.prog 4 #[.agg #[.slice A0 L.length c0, .slice A1 d.length c1, .slice A2 x.length c2], .int .i64 win] w fun e w' => e = .returned (.bool true) ∧ Below w.heap.size w w' := by
  have l0 := h.l0
  have l1 := h.l1
  have l2 := h.l2
  obtain ⟨SL, hSL⟩ : ∃ l, L.map f81 = l := ⟨_, rfl⟩
  have hSL2 : SL.map t81 = L := by rw [← hSL]; exact t81_f81 L
  have hSLn : SL.length = L.length := by rw [← hSL, List.length_map]
  obtain ⟨X, code, hC⟩ : ∃ X code, cutR SL d x win = (X, code) := ⟨_, _, rfl⟩
  have hel := cutR_el hC
  have HC := Hd.mk hC
  have HSL := Hd.mk (And.intro hSL (And.intro hSL2 hSLn))
  have HEL := Hd.mk hel.1
  obtain ⟨n, hn⟩ : ∃ n, X.length = n := ⟨_, rfl⟩
  have hnb : n ≤ 33554432 := by rw [← hn]; exact hel.2
  have HXN := Hd.mk hn
  have hb0 : Below w.heap.size w (w.alloc (.cells #[.slice A0 L.length c0, .slice A1 d.length c1, .slice A2 x.length c2] 26)) := (Below.refl _ _).alloc (Nat.le_refl _) _
  have hG := blk_new w (.cells #[.slice A0 L.length c0, .slice A1 d.length c1, .slice A2 x.length c2] 26)
  obtain ⟨g2, hg2⟩ : ∃ g, w.heap.size = g := ⟨_, rfl⟩
  obtain ⟨w0, hw0⟩ : ∃ v, w.alloc (.cells #[.slice A0 L.length c0, .slice A1 d.length c1, .slice A2 x.length c2] 26) = v := ⟨_, rfl⟩
  rw [hw0] at hb0 hG
  have HG2 : Hd (w0.heap[g2]? = some (.cells #[.slice A0 L.length c0, .slice A1 d.length c1, .slice A2 x.length c2] 26 (0, 0))) := ⟨hg2 ▸ hG⟩
  have HE := Hd.mk (h.below hb0)
  have HB := Hd.mk hb0
  have hsz0 : g2 < w0.heap.size := by rw [← hw0, ← hg2]; simp
  have HW0 := Hd.mk hw0
  have HGE := Hd.mk hg2
  obtain ⟨nL, hnL⟩ : ∃ k, L.length = k := ⟨_, rfl⟩
  obtain ⟨nd, hnd⟩ : ∃ k, d.length = k := ⟨_, rfl⟩
  obtain ⟨nx, hnx⟩ : ∃ k, x.length = k := ⟨_, rfl⟩
  have HLN := Hd.mk (And.intro hnL (And.intro hnd hnx))
  have HGV : Hd (∀ W, EdU W A0 c0 L A1 c1 d A2 c2 x → Calls Try.prog 12 #[.agg #[.slice A0 nL c0, .slice A1 nd c1, .slice A2 nx c2]] W fun e w' => ∃ B0 b0 B1 b1 B2 b2, e = .returned (.agg #[.slice B0 nL b0, .slice B1 nd b1, .slice B2 nx b2]) ∧ WvO w' W.heap.size ⟨.slice B0 nL b0, .slice B1 nd b1, .slice B2 nx b2, from45 ⟨0, ⟨L, d, x⟩⟩⟩ ∧ Below W.heap.size W w') := ⟨fun W hW => by have := face26_own hW; rwa [hnL, hnd, hnx] at this⟩
  have HRC : Hd (∀ W, EdU W A0 c0 L A1 c1 d A2 c2 x → Calls Try.prog 14 #[.agg #[.slice A0 nL c0, .slice A1 nd c1, .slice A2 nx c2], .int .i64 win] W fun e w' => ∃ B b, e = .returned (.tuple #[.slice B n b, .int .i64 code]) ∧ Kd.R k45 45 w' W.heap.size (fun _ => True) (.slice B n b) (X.map to45) ∧ Below W.heap.size W w') := ⟨fun W hW => by have := rcut_c win hW (X := X) (code := code) (by rw [hSL]; exact hC); rwa [hnL, hnd, hnx, hn] at this⟩
  rw [hnL] at l0 HG2 HW0 ⊢
  rw [hnd] at l1 HG2 HW0 ⊢
  rw [hnx] at l2 HG2 HW0 ⊢
  clear h hC hel hSL hSL2 hSLn hn hb0 hG hw0 hg2 hnL hnd hnx hw
  go_enter Try.func4, Try.ntmps4
  go_upto_region 1 with fail
  rw [HW0.out]
  simp only [HGE.out]
  clear HW0
  have o0 := blk_cell HG2.out 0
  have o1 := blk_cell HG2.out 1
  have o2 := blk_cell HG2.out 2
  simp at o0 o1 o2
  go_wp2_with fail
  refine (HGV.out _ HE.out).mono ?_
  rintro e w1 ⟨B0, b0, B1, b1, B2, b2, rfl, hO, hb1⟩
  obtain ⟨gv, hgv⟩ : ∃ gv : Wv, gv = ⟨.slice B0 nL b0, .slice B1 nd b1, .slice B2 nx b2, from45 ⟨0, ⟨L, d, x⟩⟩⟩ := ⟨_, rfl⟩
  rw [← hgv] at hO
  have hba := (Below.refl w1.heap.size w1).alloc (Nat.le_refl _) (.cells #[.slice B0 nL b0, .slice B1 nd b1, .slice B2 nx b2] 29)
  have hG5 := blk_new w1 (.cells #[.slice B0 nL b0, .slice B1 nd b1, .slice B2 nx b2] 29)
  obtain ⟨g5, hg5⟩ : ∃ g, w1.heap.size = g := ⟨_, rfl⟩
  rw [hg5] at hG5
  have HGb := Hd.mk hO.base
  have HGlt := Hd.mk hO.lt
  have HGV1 := Hd.mk hO
  have HBB := Hd.mk (And.intro hb1 (And.intro hba hG5))
  have HGVE := Hd.mk hgv
  have hsz1 := hb1.size
  have hszw := HB.out.size
  have HG5E := Hd.mk hg5
  clear hO hb1 hba hG5 hgv hg5 o0 o1 o2
  go_wp2_with fail
  obtain ⟨w2, hw2⟩ : ∃ v, w1.alloc (.cells #[.slice B0 nL b0, .slice B1 nd b1, .slice B2 nx b2] 29) = v := ⟨_, rfl⟩
  rw [hw2] at HBB ⊢
  simp only [HG5E.out]
  have HG5 := Hd.mk HBB.out.2.2
  have HGV2 := Hd.mk (HGV1.out.below HBB.out.2.1)
  have HG22 := Hd.mk (blk_below (blk_below HG2.out HBB.out.1) HBB.out.2.1)
  have HE2 := Hd.mk ((HE.out.below HBB.out.1).below HBB.out.2.1)
  have HB2 := Hd.mk (below_step (below_step HB.out HBB.out.1) HBB.out.2.1)
  have hsz2 := HBB.out.2.1.size
  have hsz25 : g5 < w2.heap.size := by rw [← hw2, ← HG5E.out]; simp
  clear hw2 HBB HG2 HE HB HGV1
  have HCUT : Hd (∀ W, WvO W w0.heap.size gv → Calls Try.prog 13 #[.agg #[.slice B0 nL b0, .slice B1 nd b1, .slice B2 nx b2], .int .i64 win] W fun e w' => ∃ A c l, e = .returned (.tuple #[.slice A n c, .int .i64 code]) ∧ RowO w' W.heap.size (.slice A n c) l ∧ (l.map Wv.y = X ∧ l.length = n) ∧ Below W.heap.size W w') := ⟨fun W hW => by
    rw [HGVE.out] at hW
    have ec : EdC W B0 b0 SL B1 b1 d B2 b2 x := by
      have hs : OS 82 W w0.heap.size (.slice B0 nL b0) SL := by have := hW.s; simp only [from45] at this; rwa [HSL.out.1] at this
      have hnn : SL.length = nL := HSL.out.2.2.trans HLN.out.1
      have hd : OB W w0.heap.size (.slice B1 nd b1) d := hW.d
      have hx : OB W w0.heap.size (.slice B2 nx b2) x := hW.x
      obtain ⟨e0, f0⟩ := C82n hs hnn
      obtain ⟨e1, f1⟩ := C8n hd HLN.out.2.1
      obtain ⟨e2, f2⟩ := C8n hx HLN.out.2.2
      refine ⟨?_, ?_, ?_, ?_, ?_, ?_⟩
      · rw [hnn]; exact e0
      · rw [HLN.out.2.1]; exact e1
      · rw [HLN.out.2.2]; exact e2
      · rw [hnn]; exact f0
      · rw [HLN.out.2.1]; exact f1
      · rw [HLN.out.2.2]; exact f2
    have hc := cut_c win ec (by rw [HSL.out.2.2, HLN.out.1]; omega) (by rw [HLN.out.2.1]; omega) (by rw [HLN.out.2.2]; omega)
    rw [HSL.out.2.2, HLN.out.1, HLN.out.2.1, HLN.out.2.2, HC.out] at hc
    refine hc.mono ?_
    rintro e w' ⟨v, l, rfl, hr, hl, hb⟩
    have hl : l.map Wv.y = X := hl
    have hln : l.length = n := by rw [← HXN.out, ← hl, List.length_map]
    obtain ⟨A, c, rfl⟩ := hr.form hln
    exact ⟨A, c, l, rfl, hr, ⟨hl, hln⟩, hb⟩⟩
  have m0 := blk_cell HG5.out 0
  have m1 := blk_cell HG5.out 1
  have m2 := blk_cell HG5.out 2
  simp at m0 m1 m2
  go_wp2_with fail
  refine (HCUT.out _ HGV2.out).mono ?_
  rintro e w3 ⟨Aa, ca, la, rfl, hRa, hLa, hb3⟩
  have HRa := Hd.mk hRa
  have HLa := Hd.mk hLa
  have HG53 := Hd.mk (blk_below HG5.out hb3)
  have HG23 := Hd.mk (blk_below HG22.out hb3)
  have HGV3 := Hd.mk (HGV2.out.below hb3)
  have HE3 := Hd.mk (HE2.out.below hb3)
  have HB3 := Hd.mk (below_step HB2.out hb3)
  have hsz3 := hb3.size
  have hGlt2 : ∀ k, gv.B k → k < w2.heap.size := HGV2.out.lt
  have HGlt2 := Hd.mk hGlt2
  clear hRa hLa hb3 HG5 HG22 HGV2 HE2 HB2 m0 m1 m2 hGlt2
  have m0 := blk_cell HG53.out 0
  have m1 := blk_cell HG53.out 1
  have m2 := blk_cell HG53.out 2
  simp at m0 m1 m2
  go_wp2_with fail
  refine (HCUT.out _ HGV3.out).mono ?_
  rintro e w4 ⟨Ab, cb, lb, rfl, hRb, hLb, hb4⟩
  have HRb := Hd.mk hRb
  have HLb := Hd.mk hLb
  have HRalt := Hd.mk HRa.out.lt
  have HRaW : Hd (∀ k, (Value.slice Aa n ca).ownBlock = some k → k < w3.heap.size) := ⟨fun k hk => own_lt HRa.out.row k hk⟩
  have HRa4 := Hd.mk (HRa.out.below hb4)
  have HG54 := Hd.mk (blk_below HG53.out hb4)
  have HG24 := Hd.mk (blk_below HG23.out hb4)
  have HGV4 := Hd.mk (HGV3.out.below hb4)
  have HE4 := Hd.mk (HE3.out.below hb4)
  have HB4 := Hd.mk (below_step HB3.out hb4)
  have hsz4 := hb4.size
  clear hRb hLb hb4 HG53 HG23 HGV3 HE3 HB3 HRa HCUT m0 m1 m2
  have o0 := blk_cell HG24.out 0
  have o1 := blk_cell HG24.out 1
  have o2 := blk_cell HG24.out 2
  simp at o0 o1 o2
  go_wp2_with fail
  refine (HRC.out _ HE4.out).mono ?_
  rintro e w5 ⟨Aw, cw, rfl, hRw, hb5⟩
  have HWt := Hd.mk hRw
  have HRa5 := Hd.mk (HRa4.out.below hb5)
  have HRb5 := Hd.mk (HRb.out.below hb5)
  have HG55 := Hd.mk (blk_below HG54.out hb5)
  have HG25 := Hd.mk (blk_below HG24.out hb5)
  have HGV5 := Hd.mk (HGV4.out.below hb5)
  have HE5 := Hd.mk (HE4.out.below hb5)
  have HB5 := Hd.mk (below_step HB4.out hb5)
  have hsz5 := hb5.size
  clear hRw hb5 HG54 HG24 HGV4 HE4 HB4 HRa4 HRb HRC HGV o0 o1 o2
  go_wp2
  have m0 := blk_cell HG55.out 0
  have m1 := blk_cell HG55.out 1
  have m2 := blk_cell HG55.out 2
  have o0 := blk_cell HG25.out 0
  have o1 := blk_cell HG25.out 1
  have o2 := blk_cell HG25.out 2
  simp at m0 m1 m2 o0 o1 o2
  have HWC : Hd (∀ W b, Kd.R k45 45 W b (fun _ => True) (.slice Aw n cw) (X.map to45) → Kd.C k45 W Aw n (X.map to45) ∧ n ≤ cw) := ⟨fun W b hW => by
    have := Kd.R_reads' hW
    rw [List.length_map, HXN.out] at this
    exact ⟨this.2.2, this.2.1⟩⟩
  have HSW : Hd (∀ W A c (l : List Wv) b b', RowO W b (.slice A n c) l → (l.map Wv.y = X ∧ l.length = n) → Kd.R k45 45 W b' (fun _ => True) (.slice Aw n cw) (X.map to45) → Calls Try.prog 15 #[.slice A n c, .slice Aw n cw] W fun e w' => e = .returned (.bool true) ∧ Below W.heap.size W w') := ⟨fun W A c l b b' hr hl hwt => sameW_c (X := X) (Y := X.map to45) (by have := (hr.C hl.2).1; rwa [hl.1] at this) (hr.C hl.2).2 (HWC.out _ _ hwt).1 (HWC.out _ _ hwt).2 rfl (fun y hy => by have := (HEL.out y hy).1; omega)⟩
  have HPG : Hd (∀ W, Below w5.heap.size w5 W → Calls Try.prog 17 #[.agg #[.slice B0 nL b0, .slice B1 nd b1, .slice B2 nx b2]] W fun e w' => ∃ B b, e = .returned (.agg #[.slice B nL b, .slice B1 nd b1, .slice B2 nx b2]) ∧ (Kd.C k81 w' B nL L ∧ nL ≤ b) ∧ Below W.heap.size W w') := ⟨fun W hW => by
    have hO := HGV5.out
    rw [HGVE.out] at hO
    have hs : OS 82 w5 w0.heap.size (.slice B0 nL b0) SL := by have := hO.s; simp only [from45] at this; rwa [HSL.out.1] at this
    have := plain_r (A1 := B1) (n1 := nd) (c1 := b1) (A2 := B2) (n2 := nx) (c2 := b2) (c0 := b0) (Kd.C_below (C82n hs (HSL.out.2.2.trans HLN.out.1)).1 hW) (by omega)
    rwa [HSL.out.2.1] at this⟩
  have HDG : Hd (∀ W, Below w5.heap.size w5 W → (Kd.int .u8).C W B1 nd d ∧ (Kd.int .u8).C W B2 nx x ∧ EdR W A0 c0 nL L A1 c1 nd d A2 c2 nx x) := ⟨fun W hW => by
    have hO := HGV5.out
    rw [HGVE.out] at hO
    have hE := HE5.out.below hW
    have e1 : (Kd.int .u8).C w5 B1 nd d := (C8n hO.d HLN.out.2.1).1
    have e2 : (Kd.int .u8).C w5 B2 nx x := (C8n hO.x HLN.out.2.2).1
    have q0 := hE.s
    have q1 := hE.di
    have q2 := hE.ex
    have q3 := hE.h0
    rw [HLN.out.1] at q0 q3
    rw [HLN.out.2.1] at q1
    rw [HLN.out.2.2] at q2
    exact ⟨Kd.C_below e1 hW, Kd.C_below e2 hW, ⟨q0, q1, q2, q3⟩⟩⟩
  have HBD := Hd.mk (Below.drew' w5)
  have hcc : (code != code) = false := by simp
  have hjl : nL ≤ 9223372036854775806 := by omega
  refine start_ (n := 22) (S := fun w' => w'.cell? ⟨g5, 0, none⟩ = some (.slice B0 nL b0) ∧ w'.cell? ⟨g5, 1, none⟩ = some (.slice B1 nd b1) ∧ w'.cell? ⟨g5, 2, none⟩ = some (.slice B2 nx b2) ∧ w'.cell? ⟨g2, 0, none⟩ = some (.slice A0 nL c0) ∧ w'.cell? ⟨g2, 1, none⟩ = some (.slice A1 nd c1) ∧ w'.cell? ⟨g2, 2, none⟩ = some (.slice A2 nx c2)) (ds := []) #[false, false, false, false, false, false, false, false, false, false, false, false, false, false, false, false, false, false, false, false, false, false] (by kernel_rfl) rfl rfl ⟨m0, m1, m2, o0, o1, o2⟩ (fun hHeld => ?_)
  refine pure_ (i := 0) (N := some 34) (v := ?_) (a' := ?_) #[true, false, false, false, false, false, false, false, false, false, false, false, false, false, false, false, false, false, false, false, false, false] rfl rfl (by kernel_rfl) (fun _ _ _ h => h) (Or.inl ⟨by rfl, ?_⟩) ?_ ?_
  rotate_left
  · intro w'
    go_simp
    with_reducible rfl
  rotate_left
  · simp only [Act.put, List.setIfInBounds_toArray, List.set_cons_zero, List.set_cons_succ, i64_w, i32_w]
    rfl
  refine pure_ (i := 1) (N := some 35) (v := ?_) (a' := ?_) #[true, true, false, false, false, false, false, false, false, false, false, false, false, false, false, false, false, false, false, false, false, false] rfl rfl (by kernel_rfl) (fun _ _ _ h => h) (Or.inl ⟨by rfl, ?_⟩) ?_ ?_
  rotate_left
  · intro w'
    go_simp
    with_reducible rfl
  rotate_left
  · simp only [Act.put, List.setIfInBounds_toArray, List.set_cons_zero, List.set_cons_succ, i64_w, i32_w]
    rfl
  refine pure_ (i := 2) (N := some 36) (v := ?_) (a' := ?_) #[true, true, true, false, false, false, false, false, false, false, false, false, false, false, false, false, false, false, false, false, false, false] rfl rfl (by kernel_rfl) (fun _ _ _ h => h) (Or.inl ⟨by rfl, ?_⟩) ?_ ?_
  rotate_left
  · intro w'
    go_simp
    with_reducible rfl
  rotate_left
  · simp only [Act.put, List.setIfInBounds_toArray, List.set_cons_zero, List.set_cons_succ, i64_w, i32_w]
    rfl
  refine pure_ (i := 3) (N := some 37) (v := ?_) (a' := ?_) #[true, true, true, true, false, false, false, false, false, false, false, false, false, false, false, false, false, false, false, false, false, false] rfl rfl (by kernel_rfl) (fun _ _ _ h => h) (Or.inl ⟨by rfl, ?_⟩) ?_ ?_
  rotate_left
  · intro w'
    go_simp
    with_reducible rfl
  rotate_left
  · simp only [Act.put, List.setIfInBounds_toArray, List.set_cons_zero, List.set_cons_succ, i64_w, i32_w]
    rfl
  refine pure_ (i := 4) (N := some 38) (v := ?_) (a' := ?_) #[true, true, true, true, true, false, false, false, false, false, false, false, false, false, false, false, false, false, false, false, false, false] rfl rfl (by kernel_rfl) (fun _ _ _ h => h) (Or.inl ⟨by rfl, ?_⟩) ?_ ?_
  rotate_left
  · intro w'
    go_simp
    with_reducible rfl
  rotate_left
  · simp only [Act.put, List.setIfInBounds_toArray, List.set_cons_zero, List.set_cons_succ, i64_w, i32_w]
    rfl
  refine pure_ (i := 5) (N := some 39) (v := ?_) (a' := ?_) #[true, true, true, true, true, true, false, false, false, false, false, false, false, false, false, false, false, false, false, false, false, false] rfl rfl (by kernel_rfl) (fun _ _ _ h => h) (Or.inl ⟨by rfl, ?_⟩) ?_ ?_
  rotate_left
  · intro w'
    go_simp
    with_reducible rfl
  rotate_left
  · simp only [Act.put, List.setIfInBounds_toArray, List.set_cons_zero, List.set_cons_succ, i64_w, i32_w]
    rfl
  refine one_ (i := 6) (N := some 40) #[true, true, true, true, true, true, true, false, false, false, false, false, false, false, false, false, false, false, false, false, false, false] rfl rfl (by kernel_rfl) (by decide) (fun K hK => ?_)
  refine goes_ Try.func15 (by kernel_rfl) rfl #[.slice Aa n ca, .slice Aw n cw] (by rfl) rfl rfl (by simp only [List.map_toArray, List.map_cons, List.map_nil]; rfl) ?_
  with_reducible refine (HSW.out _ _ _ _ _ _ (HRa5.out.below HBD.out) HLa.out (Kd.R_below HWt.out HBD.out)).mono ?_
  rintro e y1 ⟨rfl, hy1⟩
  refine ⟨_, rfl, ?_⟩
  have HY1 := Hd.mk (below_step HBD.out hy1)
  have hx1 := HY1.out
  clear hy1
  refine hK.out _ _ ⟨pw_cell_below hx1 m0, pw_cell_below hx1 m1, pw_cell_below hx1 m2, pw_cell_below hx1 o0, pw_cell_below hx1 o1, pw_cell_below hx1 o2⟩ (fun hHeld => ?_)
  clear hK K
  refine norm_ (a' := ?_) ?_ ?_
  rotate_left
  · show Act.put _ (some 40) _ = _
    simp only [Act.put, List.setIfInBounds_toArray, List.set_cons_zero, List.set_cons_succ, i64_w, i32_w]
    rfl
  refine pure_ (i := 7) (N := some 41) (v := ?_) (a' := ?_) #[true, true, true, true, true, true, true, true, false, false, false, false, false, false, false, false, false, false, false, false, false, false] rfl rfl (by kernel_rfl) (fun _ _ _ h => h) (Or.inl ⟨by rfl, ?_⟩) ?_ ?_
  rotate_left
  · intro w'
    go_simp
    with_reducible rfl
  rotate_left
  · simp only [Act.put, List.setIfInBounds_toArray, List.set_cons_zero, List.set_cons_succ, i64_w, i32_w]
    rfl
  refine pure_ (i := 8) (N := some 42) (v := ?_) (a' := ?_) #[true, true, true, true, true, true, true, true, true, false, false, false, false, false, false, false, false, false, false, false, false, false] rfl rfl (by kernel_rfl) (fun _ _ _ h => h) (Or.inl ⟨by rfl, ?_⟩) ?_ ?_
  rotate_left
  · intro w'
    go_simp
    with_reducible rfl
  rotate_left
  · simp only [Act.put, List.setIfInBounds_toArray, List.set_cons_zero, List.set_cons_succ, i64_w, i32_w]
    rfl
  refine pure_ (i := 9) (N := some 43) (v := ?_) (a' := ?_) #[true, true, true, true, true, true, true, true, true, true, false, false, false, false, false, false, false, false, false, false, false, false] rfl rfl (by kernel_rfl) (fun _ _ _ h => h) (Or.inl ⟨by rfl, ?_⟩) ?_ ?_
  rotate_left
  · intro w'
    go_simp
    with_reducible rfl
  rotate_left
  · simp only [Act.put, List.setIfInBounds_toArray, List.set_cons_zero, List.set_cons_succ, i64_w, i32_w]
    rfl
  refine pure_ (i := 10) (N := some 44) (v := ?_) (a' := ?_) #[true, true, true, true, true, true, true, true, true, true, true, false, false, false, false, false, false, false, false, false, false, false] rfl rfl (by kernel_rfl) (fun _ _ _ h => h) (Or.inl ⟨by rfl, ?_⟩) ?_ ?_
  rotate_left
  · intro w'
    go_simp
    with_reducible rfl
  rotate_left
  · simp only [Act.put, List.setIfInBounds_toArray, List.set_cons_zero, List.set_cons_succ, i64_w, i32_w]
    rfl
  refine pure_ (i := 11) (N := some 45) (v := ?_) (a' := ?_) #[true, true, true, true, true, true, true, true, true, true, true, true, false, false, false, false, false, false, false, false, false, false] rfl rfl (by kernel_rfl) (fun _ _ _ h => h) (Or.inl ⟨by rfl, ?_⟩) ?_ ?_
  rotate_left
  · intro w'
    go_simp
    with_reducible rfl
  rotate_left
  · simp only [Act.put, List.setIfInBounds_toArray, List.set_cons_zero, List.set_cons_succ, i64_w, i32_w]
    rfl
  refine one_ (i := 12) (N := some 46) #[true, true, true, true, true, true, true, true, true, true, true, true, true, false, false, false, false, false, false, false, false, false] rfl rfl (by kernel_rfl) (by decide) (fun K hK => ?_)
  refine goes_ Try.func15 (by kernel_rfl) rfl #[.slice Ab n cb, .slice Aw n cw] (by rfl) rfl rfl (by simp only [List.map_toArray, List.map_cons, List.map_nil]; rfl) ?_
  with_reducible refine (HSW.out _ _ _ _ _ _ (HRb5.out.below HY1.out) HLb.out (Kd.R_below HWt.out HY1.out)).mono ?_
  rintro e y2 ⟨rfl, hy2⟩
  refine ⟨_, rfl, ?_⟩
  have HY2 := Hd.mk (below_step HY1.out hy2)
  have hx2 := HY2.out
  clear hy2
  refine hK.out _ _ ⟨pw_cell_below hx2 m0, pw_cell_below hx2 m1, pw_cell_below hx2 m2, pw_cell_below hx2 o0, pw_cell_below hx2 o1, pw_cell_below hx2 o2⟩ (fun hHeld => ?_)
  clear hK K
  refine norm_ (a' := ?_) ?_ ?_
  rotate_left
  · show Act.put _ (some 46) _ = _
    simp only [Act.put, List.setIfInBounds_toArray, List.set_cons_zero, List.set_cons_succ, i64_w, i32_w]
    rfl
  refine pure_ (i := 13) (N := some 47) (v := ?_) (a' := ?_) #[true, true, true, true, true, true, true, true, true, true, true, true, true, true, false, false, false, false, false, false, false, false] rfl rfl (by kernel_rfl) (fun _ _ _ h => h) (Or.inl ⟨by rfl, ?_⟩) ?_ ?_
  rotate_left
  · intro w'
    go_simp
    with_reducible rfl
  rotate_left
  · simp only [Act.put, List.setIfInBounds_toArray, List.set_cons_zero, List.set_cons_succ, i64_w, i32_w]
    rfl
  refine pure_ (i := 14) (N := some 48) (v := ?_) (a' := ?_) #[true, true, true, true, true, true, true, true, true, true, true, true, true, true, true, false, false, false, false, false, false, false] rfl rfl (by kernel_rfl) (fun _ _ _ h => h) (Or.inl ⟨by rfl, ?_⟩) ?_ ?_
  rotate_left
  · intro w'
    go_simp
    with_reducible rfl
  rotate_left
  · simp only [Act.put, List.setIfInBounds_toArray, List.set_cons_zero, List.set_cons_succ, i64_w, i32_w]
    rfl
  refine pure_ (i := 15) (N := some 49) (v := ?_) (a' := ?_) #[true, true, true, true, true, true, true, true, true, true, true, true, true, true, true, true, false, false, false, false, false, false] rfl rfl (by kernel_rfl) (fun _ _ _ h => h) (Or.inl ⟨by rfl, ?_⟩) ?_ ?_
  rotate_left
  · intro w'
    go_simp
    with_reducible rfl
  rotate_left
  · simp only [Act.put, List.setIfInBounds_toArray, List.set_cons_zero, List.set_cons_succ, i64_w, i32_w]
    rfl
  refine take_ (i := 16) (N := some 50) (v := ?_) (a' := ?_) #[true, true, true, true, true, true, true, true, true, true, true, true, true, true, true, true, true, false, false, false, false, false] rfl rfl (by kernel_rfl) (fun _ _ _ h => h) (Or.inl ⟨by rfl, ?_⟩) hHeld ?_ ?_
  rotate_left
  · rintro w' ⟨s0, s1, s2, s3, s4, s5⟩
    go_simp
    with_reducible rfl
  rotate_left
  · simp only [Act.put, List.setIfInBounds_toArray, List.set_cons_zero, List.set_cons_succ, i64_w, i32_w]
    rfl
  refine take_ (i := 18) (N := some 52) (v := ?_) (a' := ?_) #[true, true, true, true, true, true, true, true, true, true, true, true, true, true, true, true, true, false, true, false, false, false] rfl rfl (by kernel_rfl) (fun _ _ _ h => h) (Or.inl ⟨by rfl, ?_⟩) hHeld ?_ ?_
  rotate_left
  · rintro w' ⟨s0, s1, s2, s3, s4, s5⟩
    go_simp
    with_reducible rfl
  rotate_left
  · simp only [Act.put, List.setIfInBounds_toArray, List.set_cons_zero, List.set_cons_succ, i64_w, i32_w]
    rfl
  refine one_ (i := 17) (N := some 51) #[true, true, true, true, true, true, true, true, true, true, true, true, true, true, true, true, true, true, true, false, false, false] rfl rfl (by kernel_rfl) (by decide) (fun K hK => ?_)
  refine goes_ Try.func17 (by kernel_rfl) rfl #[.agg #[.slice B0 nL b0, .slice B1 nd b1, .slice B2 nx b2]] (by rfl) rfl rfl (by simp only [List.map_toArray, List.map_cons, List.map_nil]; rfl) ?_
  with_reducible refine (HPG.out _ HY2.out).mono ?_
  rintro e y3 ⟨P1, p1, rfl, hP1, hy3⟩
  refine ⟨_, rfl, ?_⟩
  have HY3 := Hd.mk (below_step HY2.out hy3)
  have HP1 := Hd.mk hP1
  have hx3 := HY3.out
  clear hy3 hP1
  refine hK.out _ _ ⟨pw_cell_below hx3 m0, pw_cell_below hx3 m1, pw_cell_below hx3 m2, pw_cell_below hx3 o0, pw_cell_below hx3 o1, pw_cell_below hx3 o2⟩ (fun hHeld => ?_)
  clear hK K
  refine norm_ (a' := ?_) ?_ ?_
  rotate_left
  · show Act.put _ (some 51) _ = _
    simp only [Act.put, List.setIfInBounds_toArray, List.set_cons_zero, List.set_cons_succ, i64_w, i32_w]
    rfl
  refine one_ (i := 19) (N := some 53) #[true, true, true, true, true, true, true, true, true, true, true, true, true, true, true, true, true, true, true, true, false, false] rfl rfl (by kernel_rfl) (by decide) (fun K hK => ?_)
  refine goes_ Try.func16 (by kernel_rfl) rfl #[.agg #[.slice P1 nL p1, .slice B1 nd b1, .slice B2 nx b2], .agg #[.slice A0 nL c0, .slice A1 nd c1, .slice A2 nx c2]] (by rfl) rfl rfl (by simp only [List.map_toArray, List.map_cons, List.map_nil]; rfl) ?_
  with_reducible refine (same17_c ⟨HP1.out.1, (HDG.out _ HY3.out).1, (HDG.out _ HY3.out).2.1, HP1.out.2⟩ (HDG.out _ HY3.out).2.2 hjl).mono ?_
  rintro e y4 ⟨rfl, hy4⟩
  refine ⟨_, rfl, ?_⟩
  have HY4 := Hd.mk (below_step HY3.out hy4)
  have hx4 := HY4.out
  clear hy4
  refine hK.out _ _ ⟨pw_cell_below hx4 m0, pw_cell_below hx4 m1, pw_cell_below hx4 m2, pw_cell_below hx4 o0, pw_cell_below hx4 o1, pw_cell_below hx4 o2⟩ (fun hHeld => ?_)
  clear hK K
  refine norm_ (a' := ?_) ?_ ?_
  rotate_left
  · show Act.put _ (some 53) _ = _
    simp only [Act.put, List.setIfInBounds_toArray, List.set_cons_zero, List.set_cons_succ, i64_w, i32_w]
    rfl
  refine pure_ (i := 20) (N := some 54) (v := ?_) (a' := ?_) #[true, true, true, true, true, true, true, true, true, true, true, true, true, true, true, true, true, true, true, true, true, false] rfl rfl (by kernel_rfl) (fun _ _ _ h => h) (Or.inl ⟨by rfl, ?_⟩) ?_ ?_
  rotate_left
  · intro w'
    go_simp
    with_reducible rfl
  rotate_left
  · simp only [Act.put, List.setIfInBounds_toArray, List.set_cons_zero, List.set_cons_succ, i64_w, i32_w]
    rfl
  refine pure_ (i := 21) (N := some 55) (v := ?_) (a' := ?_) #[true, true, true, true, true, true, true, true, true, true, true, true, true, true, true, true, true, true, true, true, true, true] rfl rfl (by kernel_rfl) (fun _ _ _ h => h) (Or.inl ⟨by rfl, ?_⟩) ?_ ?_
  rotate_left
  · intro w'
    go_simp
    with_reducible rfl
  rotate_left
  · simp only [Act.put, List.setIfInBounds_toArray, List.set_cons_zero, List.set_cons_succ, i64_w, i32_w]
    rfl
  refine done_ (by kernel_rfl) ?_
  clear hHeld m0 m1 m2 o0 o1 o2
  have HB8 := Hd.mk (below_step HB5.out HY4.out)
  have HRa8 := Hd.mk (HRa5.out.below HY4.out)
  have HRb8 := Hd.mk (HRb5.out.below HY4.out)
  have HWt8 := Hd.mk (Kd.R_below HWt.out HY4.out)
  have HG58 := Hd.mk (blk_below HG55.out HY4.out)
  have HGV8 := Hd.mk (HGV5.out.below HY4.out)
  have m0 := blk_cell HG58.out 0
  have m1 := blk_cell HG58.out 1
  have m2 := blk_cell HG58.out 2
  simp at m0 m1 m2
  clear HB5 HRa5 HRb5 HWt HG55 HG25 HGV5 HE5 HPG HDG HY1 HY2 HY3 HP1 hx1 hx2 hx3 hx4
  go_wp2_with fail
  have hsp := spoil_c HGV8.out.s HGV8.out.d HGV8.out.x HGV8.out.ne (by rw [HGVE.out]; show (L.map f81).length ≤ _; rw [HSL.out.1, HSL.out.2.2, HLN.out.1]; omega) (by rw [HGVE.out]; show d.length ≤ _; rw [HLN.out.2.1]; omega) (by rw [HGVE.out]; show x.length ≤ _; rw [HLN.out.2.2]; omega)
  rw [HGVE.out] at hsp
  simp only [from45, HSL.out.1, HSL.out.2.2, HLN.out.1, HLN.out.2.1, HLN.out.2.2] at hsp
  refine hsp.mono ?_
  clear hsp m0 m1 m2
  rintro e z1 ⟨rfl, hu⟩
  have HU : Hd (Upd gv.B y4 z1) := ⟨by rw [HGVE.out]; exact hu⟩
  clear hu
  have HB9 := Hd.mk (HB8.out.trans (HU.out.below HB8.out.size (fun k hk hs => by have := HGb.out k hs; omega)))
  have HRa9 := Hd.mk (HRa8.out.upd HU.out (fun k hk hs => by have := HGlt2.out k hs; omega))
  have HRb9 := Hd.mk (HRb8.out.upd HU.out (fun k hk hs => by have := HGlt2.out k hs; omega))
  have HWt9 := Hd.mk (R_upd HWt8.out HU.out (fun k hk hs => by have := HGlt2.out k hs; omega))
  have HRaw := Hd.mk (HLa.out.2 ▸ HRa9.out.row)
  have HDIS := Hd.mk HRa9.out.dis
  have HE9 := Hd.mk HRa9.out.el
  have hN0 : (nL : Int) + nd + nx + 21 ≤ 400000000000000 := by omega
  clear HRa8 HRb8 HWt8 HG58 HGV8 HB8 HU HRa9 HGb HGlt HGlt2 HGVE HG5E HY4
  go_wp2
  go_loopg [12, 60] n (fun k v12 v60 W => ∃ (j : Nat) (N : Int), v12 = .int .i64 N ∧ v60 = .int .i64 j ∧ j + k = n ∧ Hd (21 ≤ N ∧ N ≤ 400000000000000 + 4000000 * (j : Int)) ∧ Hd (W.ownsRow w2.heap.size 43 4 (.slice Aa n ca) n (cellsW la)) ∧ Hd (∀ a ∈ la.drop j, WvO W w2.heap.size a) ∧ Hd (RowO W w3.heap.size (.slice Ab n cb) lb) ∧ Hd (Kd.R k45 45 W w4.heap.size (fun _ => True) (.slice Aw n cw) (X.map to45)) ∧ Hd (Below w.heap.size w W))
  case atStart => exact ⟨0, _, rfl, rfl, by omega, ⟨by omega⟩, HRaw, ⟨fun a ha => HE9.out a (by simpa using ha)⟩, HRb9, HWt9, HB9⟩
  case round =>
    clear HRaw HE9 HRb9 HWt9 HB9 hN0
    obtain ⟨j, N, rfl, rfl, hjk, HN, HRw, HE, HRb, HWt, HB⟩ := hrel
    have hn1 := HN.out.1
    have hn2 := HN.out.2
    rcases gk with _ | q
    · have hlt : decide ((j : Int) < (n : Int)) = false := decide_eq_false (by omega)
      have hge : decide (N ≥ 21) = true := decide_eq_true hn1
      go_wp2_with fail
      refine (HSW.out _ _ _ _ _ _ HRb.out HLb.out HWt.out).mono ?_
      rintro e y1 ⟨rfl, hy1⟩
      go_wp2_with fail
      refine (lives_c _).mono ?_
      rintro e y3 ⟨rfl, hy3⟩
      have HY3 := Hd.mk (below_step hy1 hy3)
      clear hy1 hy3
      go_wp2
      go_ret
      exact ⟨by simp, below_step HB.out HY3.out⟩
    · have hlt : decide ((j : Int) < (n : Int)) = true := decide_eq_true (by omega)
      have hng : decide ((0 : Int) ≤ (j : Int)) = true := decide_eq_true (by omega)
      have hji : j < n := by omega
      have hjl2 : j < la.length := by rw [HLa.out.2]; exact hji
      have hdr : la.drop j = la[j] :: la.drop (j + 1) := List.drop_eq_getElem_cons hjl2
      obtain ⟨ad0, hAg, hcell⟩ := row_cells HRw.out (by omega : 0 < n)
      subst hAg
      have hget : la[j]? = some la[j] := List.getElem?_eq_getElem hjl2
      have hjX : j < X.length := by rw [HXN.out]; exact hji
      have hXj : X[j]? = some la[j].y := by rw [← HLa.out.1, List.getElem?_map, hget]; rfl
      have hyX : la[j].y ∈ X := by rw [← HLa.out.1]; exact List.mem_map.2 ⟨_, List.getElem_mem hjl2, rfl⟩
      have hbd := HEL.out _ hyX
      have hO : WvO wr w2.heap.size la[j] := HE.out _ (by rw [hdr]; exact List.mem_cons_self)
      have hlt9 := HRalt.out la[j] (List.getElem_mem hjl2)
      have hpw := HDIS.out.drop (i := j)
      rw [hdr] at hpw
      have hpw1 := (List.pairwise_cons.1 hpw).1
      have hE2 : ∀ a ∈ la.drop (j + 1), WvO wr w2.heap.size a := fun a ha => HE.out a (by rw [hdr]; exact List.mem_cons_of_mem _ ha)
      obtain ⟨bd, C1, k1, C2, k2, C3, k3, e2, y0, y1, y2, y3, m1, q1', m2, q2', m3, q3'⟩ := at_T45 (HWC.out _ _ HWt.out).1 (j : Int) (by omega) (by omega)
      subst e2
      have hrd : rd_T45 (X.map to45) (j : Int) = to45 la[j].y := by
        rw [rd_map45 X j hjX]
        congr 1
        simp [rd_T43, List.getD_eq_getElem?_getD, hXj]
      rw [hrd] at y0 y1 y2 y3 m1 q1' m2 q2' m3 q3'
      obtain ⟨a, ha⟩ : ∃ a, la[j] = a := ⟨_, rfl⟩
      rw [ha] at hget hbd hO hlt9 hpw1 y0 y1 y2 y3 m1 q1' m2 q2' m3 q3'
      clear hpw hdr ha hyX hjl2 hXj hrd hjX
      obtain ⟨sv, dv, xv, ⟨yp, ⟨ys, yd, yx⟩⟩⟩ := a
      have ht : (to45 ⟨yp, ⟨ys, yd, yx⟩⟩) = (⟨yp, ⟨ys.map t81, yd, yx⟩⟩ : S45) := rfl
      simp only at y0 y1 y2 y3 m1 q1' m2 q2' m3 q3'
      rw [ht] at y0 y1 y2 y3 m1 q1' m2 q2' m3 q3'
      simp only at y0 y1 y2 y3 m1 q1' m2 q2' m3 q3'
      rw [List.length_map] at y1 m1 q1'
      obtain ⟨S0, s0, e0⟩ := hO.s.form rfl
      obtain ⟨D0, d0, e1⟩ := own_slice hO.d
      obtain ⟨X0, xx0, e2⟩ := own_slice hO.x
      simp only at e0 e1 e2 hbd
      subst e0 e1 e2
      have x1 := hcell _ _ (cellsW_at la j _ hget 1 _ rfl)
      have x2 := hcell _ _ (cellsW_at la j _ hget 2 _ rfl)
      have x3 := hcell _ _ (cellsW_at la j _ hget 3 _ rfl)
      rw [add_field _ _ 1 (by omega)] at x1
      rw [add_field _ _ 2 (by omega)] at x2
      rw [add_field _ _ 3 (by omega)] at x3
      rw [Int.toNat_natCast] at y0 y1 y2 y3
      obtain ⟨ns, hns⟩ : ∃ k, ys.length = k := ⟨_, rfl⟩
      obtain ⟨ne, hne⟩ : ∃ k, yd.length = k := ⟨_, rfl⟩
      obtain ⟨ny, hny⟩ : ∃ k, yx.length = k := ⟨_, rfl⟩
      have HPW := Hd.mk hpw1
      rw [hns] at x1 y1 m1 q1' hbd hO hlt9 HPW
      rw [hne] at x2 y2 m2 q2' hbd hO hlt9 HPW
      rw [hny] at x3 y3 m3 q3' hbd hO hlt9 HPW
      have HNN := Hd.mk (And.intro hns (And.intro hne hny))
      have HO := Hd.mk hO
      have HB3 := Hd.mk hbd
      have HE2 := Hd.mk hE2
      have HLT := Hd.mk hlt9
      have HEW : Hd (EdR wr C1 k1 ns (ys.map t81) C2 k2 ne yd C3 k3 ny yx) := ⟨⟨q1', q2', q3', m1⟩⟩
      have hbn := hbd
      clear hO hbd hpw1 hE2 hlt9 hcell hget HE ht m1 m2 m3 q1' q2' q3' hns hne hny y0
      have HBD := Hd.mk (Below.drew' wr)
      have HPL : Hd (∀ W, Below wr.heap.size wr W → Calls Try.prog 17 #[.agg #[.slice S0 ns s0, .slice D0 ne d0, .slice X0 ny xx0]] W fun e w' => ∃ B b, e = .returned (.agg #[.slice B ns b, .slice D0 ne d0, .slice X0 ny xx0]) ∧ (Kd.C k81 w' B ns (ys.map t81) ∧ ns ≤ b) ∧ Below W.heap.size W w') := ⟨fun W hW => plain_r (Kd.C_below (C82n HO.out.s HNN.out.1).1 hW) (by omega)⟩
      have HDL : Hd (∀ W, Below wr.heap.size wr W → (Kd.int .u8).C W D0 ne yd ∧ (Kd.int .u8).C W X0 ny yx) := ⟨fun W hW => ⟨Kd.C_below (C8n HO.out.d HNN.out.2.1).1 hW, Kd.C_below (C8n HO.out.x HNN.out.2.2).1 hW⟩⟩
      have hnl : ns ≤ 9223372036854775806 := by omega
      go_wp2
      refine start_ (n := 13) (S := fun w' => w'.cell? ⟨(ad0.add (j * 4)).block, (ad0.add (j * 4)).off + 1, none⟩ = some (.slice S0 ns s0) ∧ w'.cell? ⟨(ad0.add (j * 4)).block, (ad0.add (j * 4)).off + 2, none⟩ = some (.slice D0 ne d0) ∧ w'.cell? ⟨(ad0.add (j * 4)).block, (ad0.add (j * 4)).off + 3, none⟩ = some (.slice X0 ny xx0) ∧ w'.cell? ⟨(bd.add (j * 4)).block, (bd.add (j * 4)).off + 1, none⟩ = some (.slice C1 ns k1) ∧ w'.cell? ⟨(bd.add (j * 4)).block, (bd.add (j * 4)).off + 2, none⟩ = some (.slice C2 ne k2) ∧ w'.cell? ⟨(bd.add (j * 4)).block, (bd.add (j * 4)).off + 3, none⟩ = some (.slice C3 ny k3)) (ds := []) #[false, false, false, false, false, false, false, false, false, false, false, false, false] (by kernel_rfl) rfl rfl ⟨x1, x2, x3, y1, y2, y3⟩ (fun hHeld => ?_)
      refine pure_ (i := 0) (N := some 63) (v := ?_) (a' := ?_) #[true, false, false, false, false, false, false, false, false, false, false, false, false] rfl rfl (by kernel_rfl) (fun _ _ _ h => h) (Or.inl ⟨by rfl, ?_⟩) ?_ ?_
      rotate_left
      · intro w'
        go_simp
        with_reducible rfl
      rotate_left
      · simp only [Act.put, List.setIfInBounds_toArray, List.set_cons_zero, List.set_cons_succ, i64_w, i32_w]
        rfl
      refine pure_ (i := 1) (N := some 64) (v := ?_) (a' := ?_) #[true, true, false, false, false, false, false, false, false, false, false, false, false] rfl rfl (by kernel_rfl) (fun _ _ _ h => h) (Or.inl ⟨by rfl, ?_⟩) ?_ ?_
      rotate_left
      · intro w'
        go_simp
        with_reducible rfl
      rotate_left
      · simp only [Act.put, List.setIfInBounds_toArray, List.set_cons_zero, List.set_cons_succ, i64_w, i32_w]
        rfl
      refine pure_ (i := 2) (N := some 65) (v := ?_) (a' := ?_) #[true, true, true, false, false, false, false, false, false, false, false, false, false] rfl rfl (by kernel_rfl) (fun _ _ _ h => h) (Or.inl ⟨by rfl, ?_⟩) ?_ ?_
      rotate_left
      · intro w'
        go_simp
        with_reducible rfl
      rotate_left
      · simp only [Act.put, List.setIfInBounds_toArray, List.set_cons_zero, List.set_cons_succ, i64_w, i32_w]
        rfl
      refine pure_ (i := 3) (N := some 66) (v := ?_) (a' := ?_) #[true, true, true, true, false, false, false, false, false, false, false, false, false] rfl rfl (by kernel_rfl) (fun _ _ _ h => h) (Or.inl ⟨by rfl, ?_⟩) ?_ ?_
      rotate_left
      · intro w'
        go_simp
        with_reducible rfl
      rotate_left
      · simp only [Act.put, List.setIfInBounds_toArray, List.set_cons_zero, List.set_cons_succ, i64_w, i32_w]
        rfl
      refine pure_ (i := 6) (N := some 69) (v := ?_) (a' := ?_) #[true, true, true, true, false, false, true, false, false, false, false, false, false] rfl rfl (by kernel_rfl) (fun _ _ _ h => h) (Or.inl ⟨by rfl, ?_⟩) ?_ ?_
      rotate_left
      · intro w'
        go_simp
        with_reducible rfl
      rotate_left
      · simp only [Act.put, List.setIfInBounds_toArray, List.set_cons_zero, List.set_cons_succ, i64_w, i32_w]
        rfl
      refine pure_ (i := 7) (N := some 70) (v := ?_) (a' := ?_) #[true, true, true, true, false, false, true, true, false, false, false, false, false] rfl rfl (by kernel_rfl) (fun _ _ _ h => h) (Or.inl ⟨by rfl, ?_⟩) ?_ ?_
      rotate_left
      · intro w'
        go_simp
        with_reducible rfl
      rotate_left
      · simp only [Act.put, List.setIfInBounds_toArray, List.set_cons_zero, List.set_cons_succ, i64_w, i32_w]
        rfl
      refine pure_ (i := 8) (N := some 71) (v := ?_) (a' := ?_) #[true, true, true, true, false, false, true, true, true, false, false, false, false] rfl rfl (by kernel_rfl) (fun _ _ _ h => h) (Or.inl ⟨by rfl, ?_⟩) ?_ ?_
      rotate_left
      · intro w'
        go_simp
        with_reducible rfl
      rotate_left
      · simp only [Act.put, List.setIfInBounds_toArray, List.set_cons_zero, List.set_cons_succ, i64_w, i32_w]
        rfl
      refine pure_ (i := 9) (N := some 72) (v := ?_) (a' := ?_) #[true, true, true, true, false, false, true, true, true, true, false, false, false] rfl rfl (by kernel_rfl) (fun _ _ _ h => h) (Or.inl ⟨by rfl, ?_⟩) ?_ ?_
      rotate_left
      · intro w'
        go_simp
        with_reducible rfl
      rotate_left
      · simp only [Act.put, List.setIfInBounds_toArray, List.set_cons_zero, List.set_cons_succ, i64_w, i32_w]
        rfl
      refine take_ (i := 4) (N := some 67) (v := ?_) (a' := ?_) #[true, true, true, true, true, false, true, true, true, true, false, false, false] rfl rfl (by kernel_rfl) (fun _ _ _ h => h) (Or.inl ⟨by rfl, ?_⟩) hHeld ?_ ?_
      rotate_left
      · rintro w' ⟨s0, s1, s2, s3, s4, s5⟩
        go_simp
        with_reducible rfl
      rotate_left
      · simp only [Act.put, List.setIfInBounds_toArray, List.set_cons_zero, List.set_cons_succ, i64_w, i32_w]
        rfl
      refine take_ (i := 10) (N := some 73) (v := ?_) (a' := ?_) #[true, true, true, true, true, false, true, true, true, true, true, false, false] rfl rfl (by kernel_rfl) (fun _ _ _ h => h) (Or.inl ⟨by rfl, ?_⟩) hHeld ?_ ?_
      rotate_left
      · rintro w' ⟨s0, s1, s2, s3, s4, s5⟩
        go_simp
        with_reducible rfl
      rotate_left
      · simp only [Act.put, List.setIfInBounds_toArray, List.set_cons_zero, List.set_cons_succ, i64_w, i32_w]
        rfl
      refine one_ (i := 5) (N := some 68) #[true, true, true, true, true, true, true, true, true, true, true, false, false] rfl rfl (by kernel_rfl) (by decide) (fun K hK => ?_)
      refine goes_ Try.func17 (by kernel_rfl) rfl #[.agg #[.slice S0 ns s0, .slice D0 ne d0, .slice X0 ny xx0]] (by rfl) rfl rfl (by simp only [List.map_toArray, List.map_cons, List.map_nil]; rfl) ?_
      with_reducible refine (HPL.out _ HBD.out).mono ?_
      rintro e z1 ⟨Bp, bp, rfl, hP, hb2⟩
      refine ⟨_, rfl, ?_⟩
      have HD2 := Hd.mk (below_step HBD.out hb2)
      have HP := Hd.mk hP
      have hbx := HD2.out
      clear hb2 hP
      refine hK.out _ _ ⟨pw_cell_below hbx x1, pw_cell_below hbx x2, pw_cell_below hbx x3, pw_cell_below hbx y1, pw_cell_below hbx y2, pw_cell_below hbx y3⟩ (fun hHeld => ?_)
      clear hK K
      refine norm_ (a' := ?_) ?_ ?_
      rotate_left
      · show Act.put _ (some 68) _ = _
        simp only [Act.put, List.setIfInBounds_toArray, List.set_cons_zero, List.set_cons_succ, i64_w, i32_w]
        rfl
      refine one_ (i := 11) (N := some 74) #[true, true, true, true, true, true, true, true, true, true, true, true, false] rfl rfl (by kernel_rfl) (by decide) (fun K hK => ?_)
      refine goes_ Try.func16 (by kernel_rfl) rfl #[.agg #[.slice Bp ns bp, .slice D0 ne d0, .slice X0 ny xx0], .agg #[.slice C1 ns k1, .slice C2 ne k2, .slice C3 ny k3]] (by rfl) rfl rfl (by simp only [List.map_toArray, List.map_cons, List.map_nil]; rfl) ?_
      with_reducible refine (same17_c ⟨HP.out.1, (HDL.out _ HD2.out).1, (HDL.out _ HD2.out).2, HP.out.2⟩ (HEW.out.below HD2.out) hnl).mono ?_
      rintro e z2 ⟨rfl, hb3⟩
      refine ⟨_, rfl, ?_⟩
      have HD3 := Hd.mk (below_step HD2.out hb3)
      have hbx3 := HD3.out
      clear hb3
      refine hK.out _ _ ⟨pw_cell_below hbx3 x1, pw_cell_below hbx3 x2, pw_cell_below hbx3 x3, pw_cell_below hbx3 y1, pw_cell_below hbx3 y2, pw_cell_below hbx3 y3⟩ (fun hHeld => ?_)
      clear hK K
      refine norm_ (a' := ?_) ?_ ?_
      rotate_left
      · show Act.put _ (some 74) _ = _
        simp only [Act.put, List.setIfInBounds_toArray, List.set_cons_zero, List.set_cons_succ, i64_w, i32_w]
        rfl
      refine pure_ (i := 12) (N := some 75) (v := ?_) (a' := ?_) #[true, true, true, true, true, true, true, true, true, true, true, true, true] rfl rfl (by kernel_rfl) (fun _ _ _ h => h) (Or.inl ⟨by rfl, ?_⟩) ?_ ?_
      rotate_left
      · intro w'
        go_simp
        with_reducible rfl
      rotate_left
      · simp only [Act.put, List.setIfInBounds_toArray, List.set_cons_zero, List.set_cons_succ, i64_w, i32_w]
        rfl
      refine done_ (by kernel_rfl) ?_
      clear hHeld HBD HD2 HP hbx HPL HDL HEW
      have HO9 := Hd.mk (HO.out.below HD3.out)
      have HRw9 := Hd.mk (pw_own_below HRw.out HD3.out)
      have HE9 : Hd (∀ a ∈ la.drop (j + 1), WvO z2 w2.heap.size a) := ⟨fun a ha => (HE2.out a ha).below HD3.out⟩
      have HRb9 := Hd.mk (HRb.out.below HD3.out)
      have HWt9 := Hd.mk (Kd.R_below HWt.out HD3.out)
      have HB9 := Hd.mk (below_step HB.out HD3.out)
      have u1 := pw_cell_below HD3.out x1
      have u2 := pw_cell_below HD3.out x2
      have u3 := pw_cell_below HD3.out x3
      clear x1 x2 x3 y1 y2 y3 HO HRw HE2 HRb HWt HB HD3 hbx3
      go_wp2_with fail
      have hsp := spoil_c HO9.out.s HO9.out.d HO9.out.x HO9.out.ne (by show ys.length ≤ _; rw [HNN.out.1]; omega) (by show yd.length ≤ _; rw [HNN.out.2.1]; omega) (by show yx.length ≤ _; rw [HNN.out.2.2]; omega)
      simp only [HNN.out.1, HNN.out.2.1, HNN.out.2.2] at hsp
      refine hsp.mono ?_
      clear hsp
      rintro e z3 ⟨rfl, hu⟩
      have HU : Hd (Upd (Wv.B ⟨.slice S0 ns s0, .slice D0 ne d0, .slice X0 ny xx0, ⟨yp, ⟨ys, yd, yx⟩⟩⟩) z2 z3) := ⟨hu⟩
      have HBa := Hd.mk (HB9.out.trans (HU.out.below HB9.out.size (fun k hk hs => by have := HO9.out.base k hs; omega)))
      have HRwa := Hd.mk (own_upd HRw9.out HU.out (fun k hk => HO9.out.not43 HRw9.out k hk))
      have HEa : Hd (∀ a ∈ la.drop (j + 1), WvO z3 w2.heap.size a) := ⟨fun a ha => (HE9.out a ha).upd HU.out (fun k hk hs => HPW.out a ha k hs hk)⟩
      have HRba := Hd.mk (HRb9.out.upd HU.out (fun k hk hs => by have := HLT.out k hs; omega))
      have HWta := Hd.mk (R_upd HWt9.out HU.out (fun k hk hs => by have := HLT.out k hs; omega))
      have hb1 := hbn.1
      have hb2 := hbn.2.1
      have hb3 := hbn.2.2
      clear hu HU HO9 HPW HE9 HRw9 HRb9 HWt9 HB9 u1 u2 u3
      go_wp2
      go_roundg q
      case measure => omega
      case rel => exact ⟨j + 1, N + ((ns : Int) + ne + ny + 21), by go_num, by go_num, by omega, ⟨by omega⟩, HRwa, HEa, HRba, HWta, HBa⟩
end Go.Proofs.Ytinlfoblpgpikaa
