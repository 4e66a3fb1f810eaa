/- cutter: the walk of CutterApplies. -/
import Derived.Test.YtinlfoblpgpikaaS7
import Derived.Test.YtinlfoblpgpikaaF4
namespace Go.Proofs.Ytinlfoblpgpikaa
open Go.RowKit Go.ChangeShapes Go.WideShapes Go.Shelf Go.Proofs.YtinlfoblpgpikaaW.PrintWords Go.Proofs.YtinlfoblpgpikaaW.PrintLast Go.Proofs.YtinlfoblpgpikaaW.PrintMore Go.Proofs.Ytinlfoblpgpikaa.Pr
set_option linter.unusedVariables false
set_option linter.unusedSimpArgs false
/-- An old image that came in. -/
structure OldW (W : World) (A : Option Addr) (c : Nat) (b : List Int) : Prop where
  B : Bs W A b.length c b
  hb : b.length ≤ 140737488351232
set_option maxRecDepth 100000 in
theorem open_oldW {H : Type} {enc : TypeId × Value → H} {W : World} {base : Nat} {v : Value} {d : DataW H} {p : List MemPlace} (hv : Value.okWide Try.prog W .any base 24 v)
    (h : DataW.Trod enc Try.prog W 0 (fun _ => true) true 24 v d p) (hw : ∀ n ∈ d.weights Try.prog 24, n ≤ reachBytes) :
    ∃ (A1 : Option Addr) (c1 : Nat) (b : List Int), v = .slice A1 b.length c1 ∧ OldW W A1 c1 b := by
  obtain ⟨a, len, cap, rfl⟩ := okWide_slice Try.underlying24 hv
  obtain ⟨fuel, hf⟩ := h
  obtain ⟨A, c, l, e, hB, hl⟩ := bytes_of_trod (v := .slice a len cap) hf
  cases e
  have : l.length * 1 ≤ 140737488351232 := slice_weight Try.underlying24 (by kernel_rfl) hf hw
  exact ⟨a, cap, l, rfl, ⟨⟨hB.r, hB.hc, hB.hr⟩, by omega⟩⟩
theorem same_eqC {A : Option Addr} {n c : Nat} {xs : List Int} {B : Option Addr} {e : Nat} {w : World} (hx : (Kd.int .u8).C w A n xs) (hc : n ≤ c) (hy : (Kd.int .u8).C w B n xs) (he : n ≤ e) :
    Calls Try.prog 25 #[.slice A n c, .slice B n e] w fun e w' => e = .returned (.bool true) ∧ Below w.heap.size w w' := by
  obtain rfl : xs.length = n := hx.1
  exact (sapperref01_Same.calls A c xs B e xs true w hx hc hy he (by simp [sapperref01_Same.f])).mono fun e w' h => ⟨h.1, Drawn0.below h.2⟩
theorem own_C8' {W : World} {b n c : Nat} {A : Option Addr} {l : List Int} (h : OB W b (.slice A n c) l) (hl : l.length = n) : (Kd.int .u8).C W A n l := by
  subst hl
  exact own_C8 h
theorem own_cap'' {W : World} {b n c : Nat} {A : Option Addr} {l : List Int} (h : OB W b (.slice A n c) l) (hl : l.length = n) : n ≤ c := by
  subst hl
  exact own_cap' h
set_option maxRecDepth 100000 in
set_option maxHeartbeats 32000000 in
theorem walk_cutterApplies (Ao : Option Addr) (co : Nat) (old : List Int) (pos : Int) (A0 : Option Addr) (c0 : Nat) (L : List S81) (A1 : Option Addr) (c1 : Nat) (d : List Int) (A2 : Option Addr) (c2 : Nat) (x : List Int) (size : Int) (w : World) (ho : OldW w Ao co old) (h : WinI w pos A0 c0 L A1 c1 d A2 c2 x) (hs : (Lit.int .i64 size).wf = true) :
    Calls Try.prog 6 #[.slice Ao old.length co, .agg #[.int .i64 pos, .slice A0 L.length c0, .slice A1 d.length c1, .slice A2 x.length c2], .int .i64 size] w fun e w' => e = .returned (.bool true) ∧ Below w.heap.size w w' := by
  obtain ⟨hO, hm⟩ := ho
  have hb0 : Below w.heap.size w (w.alloc (.cells #[.int .i64 pos, .slice A0 L.length c0, .slice A1 d.length c1, .slice A2 x.length c2] 45)) := (Below.refl _ _).alloc (Nat.le_refl _) _
  have hY := blk_new w (.cells #[.int .i64 pos, .slice A0 L.length c0, .slice A1 d.length c1, .slice A2 x.length c2] 45)
  obtain ⟨w0, hw0⟩ : ∃ v, w.alloc (.cells #[.int .i64 pos, .slice A0 L.length c0, .slice A1 d.length c1, .slice A2 x.length c2] 45) = v := ⟨_, rfl⟩
  rw [hw0] at hb0 hY
  obtain ⟨SL, hSL⟩ : ∃ l, L.map f81 = l := ⟨_, rfl⟩
  have HSL := Hd.mk hSL
  have hl0 := h.l0
  have hl1 := h.l1
  have hl2 := h.l2
  have HE0 := Hd.mk (h.below hb0)
  have HB0 := Hd.mk hb0
  have HO0 := Hd.mk (hO.below hb0)
  obtain ⟨r, hr⟩ : ∃ r, rchk pos L d x old.length size = r := ⟨_, rfl⟩
  have hr2 : pchk pos SL d x old.length size = r := by rw [← hSL, ← chk_same]; exact hr
  have HR := Hd.mk (And.intro hr hr2)
  obtain ⟨ra, rf, hra⟩ : ∃ ra rf, apR old pos SL d x size = (ra, rf) := ⟨_, _, rfl⟩
  have HRA := Hd.mk hra
  have hrl : ra.length ≤ 65536 := by
    have := apR_len old pos SL d x size
    rw [hra] at this
    exact this
  clear hra hr hr2
  obtain ⟨nL, hnL⟩ : ∃ n, L.length = n := ⟨_, rfl⟩
  obtain ⟨nd, hnd⟩ : ∃ n, d.length = n := ⟨_, rfl⟩
  obtain ⟨nx, hnx⟩ : ∃ n, x.length = n := ⟨_, rfl⟩
  obtain ⟨no, hno⟩ : ∃ n, old.length = n := ⟨_, rfl⟩
  obtain ⟨k, hk⟩ : ∃ n, ra.length = n := ⟨_, rfl⟩
  have HK := Hd.mk hk
  have HN := Hd.mk (And.intro hnL (And.intro (show SL.length = nL by rw [← hSL, List.length_map]; exact hnL) (And.intro hnd (And.intro hnx hno))))
  rw [hnL] at hl0 hY hw0 ⊢
  rw [hnd] at hl1 hY hw0 ⊢
  rw [hnx] at hl2 hY hw0 ⊢
  rw [hno] at hm HO0 HR ⊢
  rw [hk] at hrl
  have HY0 := Hd.mk hY
  have HW0 := Hd.mk hw0
  clear hb0 hY h hO hw0 hSL hnL hnd hnx hno hk
  go_enter Try.func6, Try.ntmps6
  go_wp2_with fail
  rw [HW0.out]
  have hfc := face_c HE0.out HSL.out
  rw [HN.out.1, HN.out.2.1, HN.out.2.2.1, HN.out.2.2.2.1] at hfc
  refine hfc.mono ?_
  clear hfc
  rintro e w1 ⟨B0, b0, B1, b1, B2, b2, rfl, hF, hb1⟩
  have hba := (Below.refl w1.heap.size w1).alloc (Nat.le_refl _) (.cells #[.int .i64 pos, .slice B0 nL b0, .slice B1 nd b1, .slice B2 nx b2] 43)
  have HF := Hd.mk (hF.below hba)
  have HB := Hd.mk (below_step hb1 hba)
  have HZ := Hd.mk (blk_new w1 (.cells #[.int .i64 pos, .slice B0 nL b0, .slice B1 nd b1, .slice B2 nx b2] 43))
  have HY := Hd.mk (blk_below (blk_below HY0.out hb1) hba)
  clear hba hF hb1
  have q0 := blk_cell HY.out 0
  have q1 := blk_cell HY.out 1
  have q2 := blk_cell HY.out 2
  have q3 := blk_cell HY.out 3
  have z0 := blk_cell HZ.out 0
  have z1 := blk_cell HZ.out 1
  have z2 := blk_cell HZ.out 2
  have z3 := blk_cell HZ.out 3
  simp at q0 q1 q2 q3 z0 z1 z2 z3
  go_wp2_with fail
  refine (lend_calls Ao no co old _ (HO0.out.below HB.out) (by omega)).mono ?_
  rintro e w3 ⟨g, dc, rfl, ol, hb3⟩
  have HL := Hd.mk ol
  clear q0 q1 q2 q3 z0 z1 z2 z3
  have hbx := below_step HB.out hb3
  have hyx := blk_below HY.out hb3
  have hzx := blk_below HZ.out hb3
  have hfx := HF.out.below hb3
  replace HB := Hd.mk hbx
  replace HY := Hd.mk hyx
  replace HZ := Hd.mk hzx
  replace HF := Hd.mk hfx
  have q0 := blk_cell HY.out 0
  have q1 := blk_cell HY.out 1
  have q2 := blk_cell HY.out 2
  have q3 := blk_cell HY.out 3
  have z0 := blk_cell HZ.out 0
  have z1 := blk_cell HZ.out 1
  have z2 := blk_cell HZ.out 2
  have z3 := blk_cell HZ.out 3
  simp at q0 q1 q2 q3 z0 z1 z2 z3
  clear hb3 hbx hyx hzx hfx
  clear ol
  have hck := pck_c HF.out pos (no : Int) size HR.out.2
  rw [HN.out.2.1, HN.out.2.2.1, HN.out.2.2.2.1] at hck
  go_wp2_with fail
  refine hck.mono ?_
  clear hck
  rintro e w4 ⟨rfl, hb4⟩
  replace HL := Hd.mk (pw_own_below HL.out hb4)
  clear q0 q1 q2 q3 z0 z1 z2 z3
  have hbx := below_step HB.out hb4
  have hyx := blk_below HY.out hb4
  have hzx := blk_below HZ.out hb4
  have hfx := HF.out.below hb4
  replace HB := Hd.mk hbx
  replace HY := Hd.mk hyx
  replace HZ := Hd.mk hzx
  replace HF := Hd.mk hfx
  have q0 := blk_cell HY.out 0
  have q1 := blk_cell HY.out 1
  have q2 := blk_cell HY.out 2
  have q3 := blk_cell HY.out 3
  have z0 := blk_cell HZ.out 0
  have z1 := blk_cell HZ.out 1
  have z2 := blk_cell HZ.out 2
  have z3 := blk_cell HZ.out 3
  simp at q0 q1 q2 q3 z0 z1 z2 z3
  clear hb4 hbx hyx hzx hfx
  have hpt := (lent_bs HL.out HO0.out).pre no (by omega)
  rw [List.take_left' HO0.out.len] at hpt
  have hap := capply_c pos size (show (Kd.int .u8).C _ _ old.length old by rw [HN.out.2.2.2.2]; exact hpt.C) (by rw [HN.out.2.2.2.2]; exact hpt.hc) HF.out
  rw [HRA.out, HN.out.2.2.2.2, HN.out.2.1, HN.out.2.2.1, HN.out.2.2.2.1] at hap
  clear hpt
  go_wp2_with fail
  refine hap.mono ?_
  clear hap
  rintro e w5 ⟨va, rfl, oa, hba⟩
  obtain ⟨Aa, ca, rfl⟩ := own_slice' oa HK.out
  replace HL := Hd.mk (pw_own_below HL.out hba)
  have HA := Hd.mk oa
  have hs4 := HB.out.size
  have hs45 := hba.size
  clear q0 q1 q2 q3 z0 z1 z2 z3
  have hbx := below_step HB.out hba
  have hyx := blk_below HY.out hba
  have hzx := blk_below HZ.out hba
  have hfx := HF.out.below hba
  replace HB := Hd.mk hbx
  replace HY := Hd.mk hyx
  replace HZ := Hd.mk hzx
  replace HF := Hd.mk hfx
  have q0 := blk_cell HY.out 0
  have q1 := blk_cell HY.out 1
  have q2 := blk_cell HY.out 2
  have q3 := blk_cell HY.out 3
  have z0 := blk_cell HZ.out 0
  have z1 := blk_cell HZ.out 1
  have z2 := blk_cell HZ.out 2
  have z3 := blk_cell HZ.out 3
  simp at q0 q1 q2 q3 z0 z1 z2 z3
  clear hba hbx hyx hzx hfx
  clear oa
  have hpt := (lent_bs HL.out HO0.out).pre no (by omega)
  rw [List.take_left' HO0.out.len] at hpt
  have hap := capply_c pos size (show (Kd.int .u8).C _ _ old.length old by rw [HN.out.2.2.2.2]; exact hpt.C) (by rw [HN.out.2.2.2.2]; exact hpt.hc) HF.out
  rw [HRA.out, HN.out.2.2.2.2, HN.out.2.1, HN.out.2.2.1, HN.out.2.2.2.1] at hap
  clear hpt
  go_wp2_with fail
  refine hap.mono ?_
  clear hap
  rintro e w6 ⟨vb, rfl, ob, hbb⟩
  obtain ⟨Ab, cb, rfl⟩ := own_slice' ob HK.out
  replace HL := Hd.mk (pw_own_below HL.out hbb)
  have HDJ := Hd.mk (Dj.of HA.out ob (Nat.le_refl _))
  replace HA := Hd.mk (pw_own_below HA.out hbb)
  have HBo := Hd.mk ob
  have HS5 := Hd.mk (And.intro hs4 hs45)
  clear hs4 hs45
  clear q0 q1 q2 q3 z0 z1 z2 z3
  have hbx := below_step HB.out hbb
  have hyx := blk_below HY.out hbb
  have hzx := blk_below HZ.out hbb
  have hfx := HF.out.below hbb
  replace HB := Hd.mk hbx
  replace HY := Hd.mk hyx
  replace HZ := Hd.mk hzx
  replace HF := Hd.mk hfx
  have q0 := blk_cell HY.out 0
  have q1 := blk_cell HY.out 1
  have q2 := blk_cell HY.out 2
  have q3 := blk_cell HY.out 3
  have z0 := blk_cell HZ.out 0
  have z1 := blk_cell HZ.out 1
  have z2 := blk_cell HZ.out 2
  have z3 := blk_cell HZ.out 3
  simp at q0 q1 q2 q3 z0 z1 z2 z3
  clear hbb hbx hyx hzx hfx
  clear ob
  have hra := rap_c (Ao := Ao) (co := co) (old := old) (L := L) (r := (ra, rf)) size (show (Kd.int .u8).C _ Ao old.length old by rw [HN.out.2.2.2.2]; exact (HO0.out.below HB.out).C) (by rw [HN.out.2.2.2.2]; exact HO0.out.hc) (HE0.out.below HB.out) (by rw [HSL.out]; exact HRA.out)
  simp only at hra
  rw [HK.out, HN.out.2.2.2.2, HN.out.1, HN.out.2.2.1, HN.out.2.2.2.1] at hra
  go_wp2_with fail
  refine hra.mono ?_
  clear hra
  rintro e w7 ⟨Aw, cw, rfl, hwc, hwl, hb7⟩
  have HW := Hd.mk (And.intro hwc hwl)
  replace HL := Hd.mk (pw_own_below HL.out hb7)
  replace HA := Hd.mk (pw_own_below HA.out hb7)
  replace HBo := Hd.mk (pw_own_below HBo.out hb7)
  clear hwc hwl
  clear q0 q1 q2 q3 z0 z1 z2 z3
  have hbx := below_step HB.out hb7
  have hyx := blk_below HY.out hb7
  have hzx := blk_below HZ.out hb7
  have hfx := HF.out.below hb7
  replace HB := Hd.mk hbx
  replace HY := Hd.mk hyx
  replace HZ := Hd.mk hzx
  replace HF := Hd.mk hfx
  have q0 := blk_cell HY.out 0
  have q1 := blk_cell HY.out 1
  have q2 := blk_cell HY.out 2
  have q3 := blk_cell HY.out 3
  have z0 := blk_cell HZ.out 0
  have z1 := blk_cell HZ.out 1
  have z2 := blk_cell HZ.out 2
  have z3 := blk_cell HZ.out 3
  simp at q0 q1 q2 q3 z0 z1 z2 z3
  clear hb7 hbx hyx hzx hfx
  have hrk := rck_c (HE0.out.below HB.out) (no : Int) size HR.out.1
  rw [HN.out.1, HN.out.2.2.1, HN.out.2.2.2.1] at hrk
  go_wp2_with fail
  refine hrk.mono ?_
  clear hrk
  rintro e w8 ⟨rfl, hb8⟩
  replace HL := Hd.mk (pw_own_below HL.out hb8)
  replace HA := Hd.mk (pw_own_below HA.out hb8)
  replace HBo := Hd.mk (pw_own_below HBo.out hb8)
  replace HW := Hd.mk (And.intro (Kd.C_below HW.out.1 hb8) HW.out.2)
  clear q0 q1 q2 q3 z0 z1 z2 z3
  have hbx := below_step HB.out hb8
  have hyx := blk_below HY.out hb8
  have hzx := blk_below HZ.out hb8
  have hfx := HF.out.below hb8
  replace HB := Hd.mk hbx
  replace HY := Hd.mk hyx
  replace HZ := Hd.mk hzx
  replace HF := Hd.mk hfx
  have q0 := blk_cell HY.out 0
  have q1 := blk_cell HY.out 1
  have q2 := blk_cell HY.out 2
  have q3 := blk_cell HY.out 3
  have z0 := blk_cell HZ.out 0
  have z1 := blk_cell HZ.out 1
  have z2 := blk_cell HZ.out 2
  have z3 := blk_cell HZ.out 3
  simp at q0 q1 q2 q3 z0 z1 z2 z3
  clear hb8 hbx hyx hzx hfx
  have hrr : (r == r) = true := by simp
  have hff : (rf == rf) = true := by simp
  go_wp2_with fail
  refine (same_eqC (own_C8' HA.out HK.out) (own_cap'' HA.out HK.out) HW.out.1 HW.out.2).mono ?_
  rintro e w9 ⟨rfl, hb9⟩
  replace HL := Hd.mk (pw_own_below HL.out hb9)
  replace HA := Hd.mk (pw_own_below HA.out hb9)
  replace HBo := Hd.mk (pw_own_below HBo.out hb9)
  replace HW := Hd.mk (And.intro (Kd.C_below HW.out.1 hb9) HW.out.2)
  clear q0 q1 q2 q3 z0 z1 z2 z3
  have hbx := below_step HB.out hb9
  have hyx := blk_below HY.out hb9
  have hzx := blk_below HZ.out hb9
  have hfx := HF.out.below hb9
  replace HB := Hd.mk hbx
  replace HY := Hd.mk hyx
  replace HZ := Hd.mk hzx
  replace HF := Hd.mk hfx
  have q0 := blk_cell HY.out 0
  have q1 := blk_cell HY.out 1
  have q2 := blk_cell HY.out 2
  have q3 := blk_cell HY.out 3
  have z0 := blk_cell HZ.out 0
  have z1 := blk_cell HZ.out 1
  have z2 := blk_cell HZ.out 2
  have z3 := blk_cell HZ.out 3
  simp at q0 q1 q2 q3 z0 z1 z2 z3
  clear hb9 hbx hyx hzx hfx
  go_wp2_with fail
  refine (same_eqC (own_C8' HBo.out HK.out) (own_cap'' HBo.out HK.out) HW.out.1 HW.out.2).mono ?_
  rintro e w10 ⟨rfl, hb10⟩
  replace HL := Hd.mk (pw_own_below HL.out hb10)
  replace HA := Hd.mk (pw_own_below HA.out hb10)
  replace HBo := Hd.mk (pw_own_below HBo.out hb10)
  clear q0 q1 q2 q3 z0 z1 z2 z3
  have hbx := below_step HB.out hb10
  have hyx := blk_below HY.out hb10
  have hzx := blk_below HZ.out hb10
  have hfx := HF.out.below hb10
  replace HB := Hd.mk hbx
  replace HY := Hd.mk hyx
  replace HZ := Hd.mk hzx
  replace HF := Hd.mk hfx
  have q0 := blk_cell HY.out 0
  have q1 := blk_cell HY.out 1
  have q2 := blk_cell HY.out 2
  have q3 := blk_cell HY.out 3
  have z0 := blk_cell HZ.out 0
  have z1 := blk_cell HZ.out 1
  have z2 := blk_cell HZ.out 2
  have z3 := blk_cell HZ.out 3
  simp at q0 q1 q2 q3 z0 z1 z2 z3
  clear hb10 hbx hyx hzx hfx
  clear HW hrr hff
  go_wp2_with fail
  have hbd := Below.drew' w10
  have HBD := Hd.mk hbd
  have HKP : Hd (Calls Try.prog 26 #[.slice (some ⟨g, 0, none⟩) (no + 5) dc, .slice Ao no co] w10.drew fun e w' => e = .returned (.bool true) ∧ Below w10.drew.heap.size w10.drew w') := ⟨by
    have hk := kept_calls (some ⟨g, 0, none⟩) (no + 5) dc (old ++ tail5) Ao no co old w10.drew ((lent_bs HL.out HO0.out).below hbd) ((HO0.out.below HB.out).below hbd) hm
    rw [decide_eq_true rfl] at hk
    exact hk⟩
  have HPC : Hd (∀ W, Below w10.heap.size w10 W → Calls Try.prog 17 #[.agg #[.slice B0 nL b0, .slice B1 nd b1, .slice B2 nx b2]] W fun e w' => ∃ B b, e = .returned (.agg #[.slice B nL b, .slice B1 nd b1, .slice B2 nx b2]) ∧ (Kd.C k81 w' B nL L ∧ nL ≤ b) ∧ Below W.heap.size W w') := ⟨fun W hW => by
    have hp1 := plain_c (A0 := B0) (c0 := b0) (st := SL) (A1 := B1) (n1 := nd) (c1 := b1) (A2 := B2) (n2 := nx) (c2 := b2) (w := W) (Kd.C_below HF.out.s hW) (by rw [HN.out.2.1]; omega)
    rw [HN.out.2.1] at hp1
    refine hp1.mono ?_
    rintro e w' ⟨v, rfl, ov, hv⟩
    obtain ⟨B, bb, rfl⟩ := own_slice' ov HN.out.2.1
    refine ⟨B, bb, rfl, ⟨?_, own_cap' ov⟩, hv⟩
    have := OS.C81 ov HN.out.2.1
    rw [← HSL.out, t81_f81, HN.out.1] at this
    exact this⟩
  have HGE : Hd (∀ W, Below w10.heap.size w10 W → (Kd.int .u8).C W B1 nd d ∧ (Kd.int .u8).C W B2 nx x) := ⟨fun W hW => by
    have h1 := Kd.C_below HF.out.di hW
    have h2 := Kd.C_below HF.out.ex hW
    rw [HN.out.2.2.1] at h1
    rw [HN.out.2.2.2.1] at h2
    exact ⟨h1, h2⟩⟩
  have HWE : Hd (∀ W, Below w10.heap.size w10 W → EdR W A0 c0 nL L A1 c1 nd d A2 c2 nx x) := ⟨fun W hW => by
    have h := (HE0.out.below HB.out).below hW
    have h1 := h.s
    have h2 := h.di
    have h3 := h.ex
    have h4 := h.hs
    rw [HN.out.1] at h1 h4
    rw [HN.out.2.2.1] at h2
    rw [HN.out.2.2.2.1] at h3
    exact ⟨h1, h2, h3, h4⟩⟩
  clear hbd q0 z0
  refine start_ (n := 21) (S := fun w' => w'.cell? ⟨w1.heap.size, 1, none⟩ = some (.slice B0 nL b0) ∧ w'.cell? ⟨w1.heap.size, 2, none⟩ = some (.slice B1 nd b1) ∧ w'.cell? ⟨w1.heap.size, 3, none⟩ = some (.slice B2 nx b2) ∧ w'.cell? ⟨w.heap.size, 1, none⟩ = some (.slice A0 nL c0) ∧ w'.cell? ⟨w.heap.size, 2, none⟩ = some (.slice A1 nd c1) ∧ w'.cell? ⟨w.heap.size, 3, none⟩ = some (.slice A2 nx c2)) (ds := [15, 18]) #[false, false, false, false, false, false, false, false, false, false, false, false, false, false, false, false, false, false, false, false, false] (by kernel_rfl) rfl rfl ⟨z1, z2, z3, q1, q2, q3⟩ (fun hHeld => ?_)
  refine pure_ (i := 0) (N := some 74) (v := ?_) (a' := ?_) #[true, false, false, false, false, false, false, false, false, false, false, false, false, false, false, false, false, false, false, false, false] rfl rfl (by kernel_rfl) (fun _ _ _ h => h) (Or.inl ⟨by rfl, ?_⟩) ?_ ?_
  rotate_left
  · intro w'
    go_simp
    with_reducible rfl
  rotate_left
  · simp only [Act.put, List.setIfInBounds_toArray, List.set_cons_zero, List.set_cons_succ, i64_w, i32_w]
    rfl
  refine pure_ (i := 1) (N := some 75) (v := ?_) (a' := ?_) #[true, true, false, false, false, false, false, false, false, false, false, false, false, false, false, false, false, false, false, false, false] rfl rfl (by kernel_rfl) (fun _ _ _ h => h) (Or.inl ⟨by rfl, ?_⟩) ?_ ?_
  rotate_left
  · intro w'
    go_simp
    with_reducible rfl
  rotate_left
  · simp only [Act.put, List.setIfInBounds_toArray, List.set_cons_zero, List.set_cons_succ, i64_w, i32_w]
    rfl
  refine one_ (i := 2) (N := some 76) #[true, true, true, false, false, false, false, false, false, false, false, false, false, false, false, false, false, false, false, false, false] rfl rfl (by kernel_rfl) (by decide) (fun K hK => ?_)
  refine goes_ Try.func26 (by kernel_rfl) rfl #[.slice (some ⟨g, 0, none⟩) (no + 5) dc, .slice Ao no co] (by rfl) rfl rfl (by simp only [List.map_toArray, List.map_cons, List.map_nil]; rfl) ?_
  with_reducible refine (HKP.out).mono ?_
  rintro e w11 ⟨rfl, hb11⟩
  refine ⟨_, rfl, ?_⟩
  have HD11 := Hd.mk (below_step HBD.out hb11)
  have hbx := HD11.out
  clear hb11
  refine hK.out _ _ ⟨pw_cell_below hbx z1, pw_cell_below hbx z2, pw_cell_below hbx z3, pw_cell_below hbx q1, pw_cell_below hbx q2, pw_cell_below hbx q3⟩ (fun hHeld => ?_)
  clear hK K
  refine norm_ (a' := ?_) ?_ ?_
  rotate_left
  · show Act.put _ (some 76) _ = _
    simp only [Act.put, List.setIfInBounds_toArray, List.set_cons_zero, List.set_cons_succ, i64_w, i32_w]
    rfl
  refine pure_ (i := 3) (N := some 77) (v := ?_) (a' := ?_) #[true, true, true, true, false, false, false, false, false, false, false, false, false, false, false, false, false, false, false, false, false] rfl rfl (by kernel_rfl) (fun _ _ _ h => h) (Or.inl ⟨by rfl, ?_⟩) ?_ ?_
  rotate_left
  · intro w'
    go_simp
    with_reducible rfl
  rotate_left
  · simp only [Act.put, List.setIfInBounds_toArray, List.set_cons_zero, List.set_cons_succ, i64_w, i32_w]
    rfl
  refine pure_ (i := 4) (N := some 78) (v := ?_) (a' := ?_) #[true, true, true, true, true, false, false, false, false, false, false, false, false, false, false, false, false, false, false, false, false] rfl rfl (by kernel_rfl) (fun _ _ _ h => h) (Or.inl ⟨by rfl, ?_⟩) ?_ ?_
  rotate_left
  · intro w'
    go_simp
    with_reducible rfl
  rotate_left
  · simp only [Act.put, List.setIfInBounds_toArray, List.set_cons_zero, List.set_cons_succ, i64_w, i32_w]
    rfl
  refine pure_ (i := 7) (N := some 81) (v := ?_) (a' := ?_) #[true, true, true, true, true, false, false, true, false, false, false, false, false, false, false, false, false, false, false, false, false] rfl rfl (by kernel_rfl) (fun _ _ _ h => h) (Or.inl ⟨by rfl, ?_⟩) ?_ ?_
  rotate_left
  · intro w'
    go_simp
    with_reducible rfl
  rotate_left
  · simp only [Act.put, List.setIfInBounds_toArray, List.set_cons_zero, List.set_cons_succ, i64_w, i32_w]
    rfl
  refine take_ (i := 5) (N := some 79) (v := ?_) (a' := ?_) #[true, true, true, true, true, true, false, true, false, false, false, false, false, false, false, false, false, false, false, false, false] rfl rfl (by kernel_rfl) (fun _ _ _ h => h) (Or.inl ⟨by rfl, ?_⟩) hHeld ?_ ?_
  rotate_left
  · rintro w' ⟨s0, s1, s2, s3, s4, s5⟩
    go_simp
    with_reducible rfl
  rotate_left
  · simp only [Act.put, List.setIfInBounds_toArray, List.set_cons_zero, List.set_cons_succ, i64_w, i32_w]
    rfl
  refine take_ (i := 8) (N := some 82) (v := ?_) (a' := ?_) #[true, true, true, true, true, true, false, true, true, false, false, false, false, false, false, false, false, false, false, false, false] rfl rfl (by kernel_rfl) (fun _ _ _ h => h) (Or.inl ⟨by rfl, ?_⟩) hHeld ?_ ?_
  rotate_left
  · rintro w' ⟨s0, s1, s2, s3, s4, s5⟩
    go_simp
    with_reducible rfl
  rotate_left
  · simp only [Act.put, List.setIfInBounds_toArray, List.set_cons_zero, List.set_cons_succ, i64_w, i32_w]
    rfl
  refine one_ (i := 6) (N := some 80) #[true, true, true, true, true, true, true, true, true, false, false, false, false, false, false, false, false, false, false, false, false] rfl rfl (by kernel_rfl) (by decide) (fun K hK => ?_)
  refine goes_ Try.func17 (by kernel_rfl) rfl #[.agg #[.slice B0 nL b0, .slice B1 nd b1, .slice B2 nx b2]] (by rfl) rfl rfl (by simp only [List.map_toArray, List.map_cons, List.map_nil]; rfl) ?_
  with_reducible refine (HPC.out _ HD11.out).mono ?_
  rintro e w12 ⟨Bp, bp, rfl, hP, hb12⟩
  refine ⟨_, rfl, ?_⟩
  have HD12 := Hd.mk (below_step HD11.out hb12)
  have HP := Hd.mk hP
  have hbx2 := HD12.out
  clear hb12 hP
  refine hK.out _ _ ⟨pw_cell_below hbx2 z1, pw_cell_below hbx2 z2, pw_cell_below hbx2 z3, pw_cell_below hbx2 q1, pw_cell_below hbx2 q2, pw_cell_below hbx2 q3⟩ (fun hHeld => ?_)
  clear hK K
  refine norm_ (a' := ?_) ?_ ?_
  rotate_left
  · show Act.put _ (some 80) _ = _
    simp only [Act.put, List.setIfInBounds_toArray, List.set_cons_zero, List.set_cons_succ, i64_w, i32_w]
    rfl
  refine one_ (i := 9) (N := some 83) #[true, true, true, true, true, true, true, true, true, true, false, false, false, false, false, false, false, false, false, false, false] rfl rfl (by kernel_rfl) (by decide) (fun K hK => ?_)
  refine goes_ Try.func16 (by kernel_rfl) rfl #[.agg #[.slice Bp nL bp, .slice B1 nd b1, .slice B2 nx b2], .agg #[.slice A0 nL c0, .slice A1 nd c1, .slice A2 nx c2]] (by rfl) rfl rfl (by simp only [List.map_toArray, List.map_cons, List.map_nil]; rfl) ?_
  with_reducible refine (same17_c ⟨HP.out.1, (HGE.out _ HD12.out).1, (HGE.out _ HD12.out).2, HP.out.2⟩ (HWE.out _ HD12.out) (by omega)).mono ?_
  rintro e w13 ⟨rfl, hb13⟩
  refine ⟨_, rfl, ?_⟩
  have HD13 := Hd.mk (below_step HD12.out hb13)
  have HA13 := Hd.mk (pw_own_below HA.out HD13.out)
  have HB13 := Hd.mk (pw_own_below HBo.out HD13.out)
  have hbx3 := HD13.out
  clear hb13
  refine hK.out _ _ ⟨pw_cell_below hbx3 z1, pw_cell_below hbx3 z2, pw_cell_below hbx3 z3, pw_cell_below hbx3 q1, pw_cell_below hbx3 q2, pw_cell_below hbx3 q3⟩ (fun hHeld => ?_)
  clear hK K
  refine norm_ (a' := ?_) ?_ ?_
  rotate_left
  · show Act.put _ (some 83) _ = _
    simp only [Act.put, List.setIfInBounds_toArray, List.set_cons_zero, List.set_cons_succ, i64_w, i32_w]
    rfl
  refine pure_ (i := 10) (N := some 84) (v := ?_) (a' := ?_) #[true, true, true, true, true, true, true, true, true, true, true, false, false, false, false, false, false, false, false, false, false] rfl rfl (by kernel_rfl) (fun _ _ _ h => h) (Or.inl ⟨by rfl, ?_⟩) ?_ ?_
  rotate_left
  · intro w'
    go_simp
    with_reducible rfl
  rotate_left
  · simp only [Act.put, List.setIfInBounds_toArray, List.set_cons_zero, List.set_cons_succ, i64_w, i32_w]
    rfl
  refine pure_ (i := 11) (N := some 85) (v := ?_) (a' := ?_) #[true, true, true, true, true, true, true, true, true, true, true, true, false, false, false, false, false, false, false, false, false] rfl rfl (by kernel_rfl) (fun _ _ _ h => h) (Or.inl ⟨by rfl, ?_⟩) ?_ ?_
  rotate_left
  · intro w'
    go_simp
    with_reducible rfl
  rotate_left
  · simp only [Act.put, List.setIfInBounds_toArray, List.set_cons_zero, List.set_cons_succ, i64_w, i32_w]
    rfl
  refine pure_ (i := 12) (N := some 86) (v := ?_) (a' := ?_) #[true, true, true, true, true, true, true, true, true, true, true, true, true, false, false, false, false, false, false, false, false] rfl rfl (by kernel_rfl) (fun _ _ _ h => h) (Or.inl ⟨by rfl, ?_⟩) ?_ ?_
  rotate_left
  · intro w'
    go_simp
    with_reducible rfl
  rotate_left
  · simp only [Act.put, List.setIfInBounds_toArray, List.set_cons_zero, List.set_cons_succ, i64_w, i32_w]
    rfl
  refine pure_ (i := 13) (N := some 87) (v := ?_) (a' := ?_) #[true, true, true, true, true, true, true, true, true, true, true, true, true, true, false, false, false, false, false, false, false] rfl rfl (by kernel_rfl) (fun _ _ _ h => h) (Or.inl ⟨by rfl, ?_⟩) ?_ ?_
  rotate_left
  · intro w'
    go_simp
    with_reducible rfl
  rotate_left
  · simp only [Act.put, List.setIfInBounds_toArray, List.set_cons_zero, List.set_cons_succ, i64_w, i32_w]
    rfl
  refine one_ (i := 14) (N := some 88) #[true, true, true, true, true, true, true, true, true, true, true, true, true, true, true, false, false, false, false, false, false] rfl rfl (by kernel_rfl) (by decide) (fun K hK => ?_)
  refine value_ (w1 := ?_) (v := ?_) (by rfl) rfl ?_ ?_
  rotate_left 2
  · go_simp
    constructor
    · rfl
    · rfl
  have hbx4 := below_step HD13.out ((Below.refl w13.heap.size w13).alloc (Nat.le_refl _) (.cells #[.slice Aa k ca, .slice Ab k cb] 24))
  refine hK.out _ _ ⟨pw_cell_below hbx4 z1, pw_cell_below hbx4 z2, pw_cell_below hbx4 z3, pw_cell_below hbx4 q1, pw_cell_below hbx4 q2, pw_cell_below hbx4 q3⟩ (fun hHeld => ?_)
  clear hK K
  refine norm_ (a' := ?_) ?_ ?_
  rotate_left
  · show Act.put _ (some 88) _ = _
    simp only [Act.put, List.setIfInBounds_toArray, List.set_cons_zero, List.set_cons_succ, i64_w, i32_w]
    rfl
  refine last_ (i := 15) (N := some 89) #[true, true, true, true, true, true, true, true, true, true, true, true, true, true, true, true, false, false, false, false, false] rfl rfl (by kernel_rfl) (by decide) (fun K hK => ?_)
  refine goes_ Try.func27 (by kernel_rfl) rfl #[.slice (some ⟨w13.heap.size, 0, none⟩) 2 2] (by rfl) rfl rfl (by simp only [List.map_toArray, List.map_cons, List.map_nil]; rfl) ?_
  with_reducible refine (own2_calls _ _ ra ra _ _ w13 HA13.out HB13.out (by have := HK.out; omega) (by have := HK.out; omega) HDJ.out).mono ?_
  rintro e w14 ⟨rfl, hu⟩
  refine ⟨_, rfl, ?_⟩
  have HB14 : Hd (Below w0.heap.size w0 w14) := ⟨(below_step HB.out HD13.out).trans (hu.below (below_step HB.out HD13.out).size (fun j hj hs => hs.elim (fun hs => by have := own_base HA13.out j hs; have := HS5.out; omega) (fun hs => by have := own_base HB13.out j hs; have := HS5.out; omega)))⟩
  clear hu
  refine hK.out _ _ ?_
  clear hK K
  refine norm_ (a' := ?_) ?_ ?_
  rotate_left
  · show Act.put _ (some 89) _ = _
    simp only [Act.put, List.setIfInBounds_toArray, List.set_cons_zero, List.set_cons_succ, i64_w, i32_w]
    rfl
  refine pure_ (i := 16) (N := some 90) (v := ?_) (a' := ?_) #[true, true, true, true, true, true, true, true, true, true, true, true, true, true, true, true, true, false, false, false, false] rfl rfl (by kernel_rfl) (fun _ _ _ h => h) (Or.inl ⟨by rfl, ?_⟩) ?_ ?_
  rotate_left
  · intro w'
    go_simp
    with_reducible rfl
  rotate_left
  · simp only [Act.put, List.setIfInBounds_toArray, List.set_cons_zero, List.set_cons_succ, i64_w, i32_w]
    rfl
  refine pure_ (i := 17) (N := some 91) (v := ?_) (a' := ?_) #[true, true, true, true, true, true, true, true, true, true, true, true, true, true, true, true, true, true, false, false, false] rfl rfl (by kernel_rfl) (fun _ _ _ h => h) (Or.inl ⟨by rfl, ?_⟩) ?_ ?_
  rotate_left
  · intro w'
    go_simp
    with_reducible rfl
  rotate_left
  · simp only [Act.put, List.setIfInBounds_toArray, List.set_cons_zero, List.set_cons_succ, i64_w, i32_w]
    rfl
  refine last_ (i := 18) (N := some 92) #[true, true, true, true, true, true, true, true, true, true, true, true, true, true, true, true, true, true, true, false, false] rfl rfl (by kernel_rfl) (by decide) (fun K hK => ?_)
  refine goes_ Try.func11 (by kernel_rfl) rfl #[] (by rfl) rfl rfl (by simp only [List.map_toArray, List.map_nil]) ?_
  refine (lives_c _).mono ?_
  rintro e w15 ⟨rfl, hb15⟩
  refine ⟨_, rfl, ?_⟩
  have HB15 := Hd.mk (below_step HB14.out hb15)
  refine hK.out _ _ ?_
  clear hK K
  refine norm_ (a' := ?_) ?_ ?_
  rotate_left
  · show Act.put _ (some 92) _ = _
    simp only [Act.put, List.setIfInBounds_toArray, List.set_cons_zero, List.set_cons_succ, i64_w, i32_w]
    rfl
  refine pure_ (i := 19) (N := some 93) (v := ?_) (a' := ?_) #[true, true, true, true, true, true, true, true, true, true, true, true, true, true, true, true, true, true, true, true, false] rfl rfl (by kernel_rfl) (fun _ _ _ h => h) (Or.inl ⟨by rfl, ?_⟩) ?_ ?_
  rotate_left
  · intro w'
    go_simp
    with_reducible rfl
  rotate_left
  · simp only [Act.put, List.setIfInBounds_toArray, List.set_cons_zero, List.set_cons_succ, i64_w, i32_w]
    rfl
  refine pure_ (i := 20) (N := some 6) (v := ?_) (a' := ?_) #[true, true, true, true, true, true, true, true, true, true, true, true, true, true, true, true, true, true, true, true, true] rfl rfl (by kernel_rfl) (fun _ _ _ h => h) (Or.inl ⟨by rfl, ?_⟩) ?_ ?_
  rotate_left
  · intro w'
    go_simp
    with_reducible rfl
  rotate_left
  · simp only [Act.put, List.setIfInBounds_toArray, List.set_cons_zero, List.set_cons_succ, i64_w, i32_w]
    rfl
  refine done_ (by kernel_rfl) ?_
  go_wp2
  go_ret
  exact ⟨by simp, below_step HB0.out HB15.out⟩
end Go.Proofs.Ytinlfoblpgpikaa
