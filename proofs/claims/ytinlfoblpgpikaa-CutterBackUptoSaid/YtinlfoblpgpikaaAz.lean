/- cutter: Apply by contract. -/
import Derived.Test.YtinlfoblpgpikaaZ4
namespace Go.Proofs.Ytinlfoblpgpikaa
open Go.RowKit Go.Shelf Go.Proofs.YtinlfoblpgpikaaW.PrintWords Go.Proofs.YtinlfoblpgpikaaW.PrintLast Go.Proofs.YtinlfoblpgpikaaW.PrintMore Go.Proofs.Ytinlfoblpgpikaa.Pr
set_option linter.unusedVariables false
set_option linter.unusedSimpArgs false
attribute [-go_sem] Builtin.append_
attribute [local go_sem high] run_suf run_pre
/-- One byte more. -/
theorem push8 {W : World} {base : Nat} {v : Value} {l : List Int} (h : OB W base v l) (hb : base ≤ W.heap.size) {g : Nat} {ty : TypeId} {b : Int} (hg : W.heap[g]? = some (.cells #[.int .u8 b] ty)) (hl : l.length ≤ 200000000000000) :
    ∃ v' w', (Builtin.append_ #[24, 24] 24 #[v, .slice (some ⟨g, 0, none⟩) 1 1]).run Try.prog W = .ok v' w' ∧ OB w' base v' (l ++ [b]) ∧ W.grownBy w' v.ownBlock := by
  have hsrc : Src W (some ⟨g, 0, none⟩) 1 1 [.int .u8 b] := by
    refine ⟨rfl, fun j u hj => ?_, by simp [Value.oneCell']⟩
    cases j with
    | zero =>
      simp at hj
      subst hj
      refine ⟨_, rfl, ?_⟩
      rw [add_plain, blk_cell hg]
      rfl
    | succ j => simp at hj
  obtain ⟨v', w', h1, h2, h3, _, _⟩ := run_app (P := Try.prog) W base 24 24 5 _ 1 1 eltB v _ _ h (some ⟨g, 0, none⟩) 1 1 [.int .u8 b] hsrc (by omega) hb
  exact ⟨v', w', h1, OB.snoc h2 rfl, h3⟩
set_option maxRecDepth 100000 in
set_option maxHeartbeats 16000000 in
theorem capply_c {Ao : Option Addr} {co : Nat} {old : List Int} {A0 : Option Addr} {c0 : Nat} {st : List S82} {A1 : Option Addr} {c1 : Nat} {d : List Int} {A2 : Option Addr} {c2 : Nat} {x : List Int} {w : World} (pos size : Int)
    (hO : (Kd.int .u8).C w Ao old.length old) (hoc : old.length ≤ co) (hE : EdC w A0 c0 st A1 c1 d A2 c2 x) :
    Calls Try.prog 23 #[.slice Ao old.length co, .agg #[.int .i64 pos, .slice A0 st.length c0, .slice A1 d.length c1, .slice A2 x.length c2], .int .i64 size] w fun e w' => ∃ v, e = .returned (.tuple #[v, .int .i64 (apR old pos st d x size).2]) ∧ OB w' w.heap.size v (apR old pos st d x size).1 ∧ Below w.heap.size w w' := by
  have hb0 : Below w.heap.size w (w.alloc (.cells #[.int .i64 pos, .slice A0 st.length c0, .slice A1 d.length c1, .slice A2 x.length c2] 43)) := (Below.refl _ _).alloc (Nat.le_refl _) _
  have hY := blk_new w (.cells #[.int .i64 pos, .slice A0 st.length c0, .slice A1 d.length c1, .slice A2 x.length c2] 43)
  obtain ⟨w0, hw0⟩ : ∃ v, w.alloc (.cells #[.int .i64 pos, .slice A0 st.length c0, .slice A1 d.length c1, .slice A2 x.length c2] 43) = v := ⟨_, rfl⟩
  rw [hw0] at hb0 hY
  obtain ⟨r, hr⟩ : ∃ r, pchk pos st d x old.length size = r := ⟨_, rfl⟩
  have hck := pck_c (hE.below hb0) pos old.length size hr
  obtain ⟨nS, hnS⟩ : ∃ n, st.length = n := ⟨_, rfl⟩
  obtain ⟨nd, hnd⟩ : ∃ n, d.length = n := ⟨_, rfl⟩
  obtain ⟨nx, hnx⟩ : ∃ n, x.length = n := ⟨_, rfl⟩
  obtain ⟨no, hno⟩ : ∃ n, old.length = n := ⟨_, rfl⟩
  have hse := hE.s
  have hde := hE.di
  have hxe := hE.ex
  have hdc := hE.hd
  have hxc := hE.hx
  rw [hnS] at hse hY hw0 hck ⊢
  rw [hnd] at hde hdc hY hw0 hck ⊢
  rw [hnx] at hxe hxc hY hw0 hck ⊢
  rw [hno] at hO hoc hck ⊢
  have hsm : nS ≤ 9223372036854775807 := hse.2.1
  have HS := Hd.mk hse
  have HD := Hd.mk hde
  have HX := Hd.mk hxe
  have HDC := Hd.mk hdc
  have HXC := Hd.mk hxc
  have HO := Hd.mk hO
  have HN := Hd.mk (And.intro hnS (And.intro hnd (And.intro hnx hno)))
  have HR := Hd.mk hr
  have HB0 := Hd.mk hb0
  have HY := Hd.mk hY
  have HCK := Hd.mk hck
  have HW0 := Hd.mk hw0
  have q0 := blk_cell hY 0
  have q1 := blk_cell hY 1
  have q2 := blk_cell hY 2
  have q3 := blk_cell hY 3
  simp at q0 q1 q2 q3
  clear hE hse hde hxe hdc hxc hO hnS hnd hnx hno hr hb0 hY hck hw0
  go_enter Try.func23, Try.ntmps23
  go_wp2_with fail
  rw [HW0.out]
  refine HCK.out.mono ?_
  rintro e w1 ⟨rfl, hb1⟩
  have HB1 := Hd.mk (below_step HB0.out hb1)
  have hy1 := blk_below HY.out hb1
  clear hb1 HY HB0 HCK HW0 q0 q1 q2 q3
  have q0 := blk_cell hy1 0
  have q1 := blk_cell hy1 1
  have q2 := blk_cell hy1 2
  have q3 := blk_cell hy1 3
  simp at q0 q1 q2 q3
  have HY1 := Hd.mk hy1
  clear hy1
  by_cases hr0 : r = 0
  · subst hr0
    obtain ⟨hwk, hsz, hs1, hp0, hp1, ho⟩ := pchk_wks HR.out
    rw [HN.out.2.1, HN.out.2.2.1, HN.out.2.2.2] at hwk
    rw [HN.out.2.1, HN.out.2.2.1] at hsz
    rw [HN.out.2.2.2] at ho
    have HAP : Hd (apR old pos st d x size = (apw old st d x pos, 0)) := ⟨by unfold apR; rw [if_pos HR.out]⟩
    have HWK := Hd.mk hwk
    obtain ⟨N, hN⟩ : ∃ N : Nat, size = (N : Int) := ⟨size.toNat, by omega⟩
    subst hN
    have HSZ := Hd.mk hsz
    clear hwk hsz
    obtain ⟨i0, hi, hz0, hz1, hz2⟩ := info_parts eltB.hi
    obtain ⟨w2, hmk, hr2, hg2⟩ := run_make_own (P := Try.prog) w1 w.heap.size 24 5 i0 (.int .u8 0) 1 eltB.ht hi hz0 hz1 .i64 .i64 N (by rw [hz2]; omega) (by simp only [maxLen]; omega) HB1.out.size
    have hb2 : Below w1.heap.size w1 w2 := (Below.refl _ _).grown hg2 (Nat.le_refl _) (fun k e => by cases e)
    have HR2 := Hd.mk hr2
    have hy2 := blk_below HY1.out hb2
    have HB2 := Hd.mk (below_step HB1.out hb2)
    clear hi hz0 hz1 hz2 hr2 hg2 hb2 q0 q1 q2 q3 HY1 HB1
    have q0 := blk_cell hy2 0
    have q1 := blk_cell hy2 1
    have q2 := blk_cell hy2 2
    have q3 := blk_cell hy2 3
    simp at q0 q1 q2 q3
    have HY2 := Hd.mk hy2
    clear hy2
    go_wp2_with fail
    refine start_ (n := 11) (S := fun w' => w'.cell? ⟨w.heap.size, 0, none⟩ = some (.int .i64 pos) ∧ w'.cell? ⟨w.heap.size, 1, none⟩ = some (.slice A0 nS c0) ∧ w'.cell? ⟨w.heap.size, 2, none⟩ = some (.slice A1 nd c1) ∧ w'.cell? ⟨w.heap.size, 3, none⟩ = some (.slice A2 nx c2)) (ds := []) #[false, false, false, false, false, false, false, false, false, false, false] (by kernel_rfl) rfl rfl ⟨q0, q1, q2, q3⟩ (fun hHeld => ?_)
    refine pure_ (i := 0) (N := some 26) (v := ?_) (a' := ?_) #[true, false, false, false, false, false, false, false, false, false, false] rfl rfl (by kernel_rfl) (fun _ _ _ h => h) (Or.inl ⟨by rfl, ?_⟩) ?_ ?_
    rotate_left
    · intro w'
      go_simp
      with_reducible rfl
    rotate_left
    · simp only [Act.put, List.setIfInBounds_toArray, List.set_cons_zero, List.set_cons_succ, i64_w, i32_w]
      rfl
    refine pure_ (i := 2) (N := some 28) (v := ?_) (a' := ?_) #[true, false, true, false, false, false, false, false, false, false, false] rfl rfl (by kernel_rfl) (fun _ _ _ h => h) (Or.inl ⟨by rfl, ?_⟩) ?_ ?_
    rotate_left
    · intro w'
      go_simp
      with_reducible rfl
    rotate_left
    · simp only [Act.put, List.setIfInBounds_toArray, List.set_cons_zero, List.set_cons_succ, i64_w, i32_w]
      rfl
    refine pure_ (i := 3) (N := some 29) (v := ?_) (a' := ?_) #[true, false, true, true, false, false, false, false, false, false, false] rfl rfl (by kernel_rfl) (fun _ _ _ h => h) (Or.inl ⟨by rfl, ?_⟩) ?_ ?_
    rotate_left
    · intro w'
      go_simp
      with_reducible rfl
    rotate_left
    · simp only [Act.put, List.setIfInBounds_toArray, List.set_cons_zero, List.set_cons_succ, i64_w, i32_w]
      rfl
    refine pure_ (i := 5) (N := some 31) (v := ?_) (a' := ?_) #[true, false, true, true, false, true, false, false, false, false, false] rfl rfl (by kernel_rfl) (fun _ _ _ h => h) (Or.inl ⟨by rfl, ?_⟩) ?_ ?_
    rotate_left
    · intro w'
      go_simp
      with_reducible rfl
    rotate_left
    · simp only [Act.put, List.setIfInBounds_toArray, List.set_cons_zero, List.set_cons_succ, i64_w, i32_w]
      rfl
    refine pure_ (i := 6) (N := some 32) (v := ?_) (a' := ?_) #[true, false, true, true, false, true, true, false, false, false, false] rfl rfl (by kernel_rfl) (fun _ _ _ h => h) (Or.inl ⟨by rfl, ?_⟩) ?_ ?_
    rotate_left
    · intro w'
      go_simp
      with_reducible rfl
    rotate_left
    · simp only [Act.put, List.setIfInBounds_toArray, List.set_cons_zero, List.set_cons_succ, i64_w, i32_w]
      rfl
    refine take_ (i := 1) (N := some 27) (v := ?_) (a' := ?_) #[true, true, true, true, false, true, true, false, false, false, false] rfl rfl (by kernel_rfl) (fun _ _ _ h => h) (Or.inl ⟨by rfl, ?_⟩) hHeld ?_ ?_
    rotate_left
    · rintro w' ⟨s0, s1, s2, s3⟩
      go_simp
      with_reducible rfl
    rotate_left
    · simp only [Act.put, List.setIfInBounds_toArray, List.set_cons_zero, List.set_cons_succ, i64_w, i32_w]
      rfl
    refine pure_ (i := 8) (N := some 10) (v := ?_) (a' := ?_) #[true, true, true, true, false, true, true, false, true, false, false] rfl rfl (by kernel_rfl) (fun _ _ _ h => h) (Or.inl ⟨by rfl, ?_⟩) ?_ ?_
    rotate_left
    · intro w'
      go_simp
      with_reducible rfl
    rotate_left
    · simp only [Act.put, List.setIfInBounds_toArray, List.set_cons_zero, List.set_cons_succ, i64_w, i32_w]
      rfl
    refine take_ (i := 4) (N := some 30) (v := ?_) (a' := ?_) #[true, true, true, true, true, true, true, false, true, false, false] rfl rfl (by kernel_rfl) (fun _ _ _ h => h) (Or.inl ⟨by rfl, ?_⟩) hHeld ?_ ?_
    rotate_left
    · rintro w' ⟨s0, s1, s2, s3⟩
      go_simp
      with_reducible rfl
    rotate_left
    · simp only [Act.put, List.setIfInBounds_toArray, List.set_cons_zero, List.set_cons_succ, i64_w, i32_w]
      rfl
    refine pure_ (i := 9) (N := some 11) (v := ?_) (a' := ?_) #[true, true, true, true, true, true, true, false, true, true, false] rfl rfl (by kernel_rfl) (fun _ _ _ h => h) (Or.inl ⟨by rfl, ?_⟩) ?_ ?_
    rotate_left
    · intro w'
      go_simp
      with_reducible rfl
    rotate_left
    · simp only [Act.put, List.setIfInBounds_toArray, List.set_cons_zero, List.set_cons_succ, i64_w, i32_w]
      rfl
    refine take_ (i := 7) (N := some 33) (v := ?_) (a' := ?_) #[true, true, true, true, true, true, true, true, true, true, false] rfl rfl (by kernel_rfl) (fun _ _ _ h => h) (Or.inl ⟨by rfl, ?_⟩) hHeld ?_ ?_
    rotate_left
    · rintro w' ⟨s0, s1, s2, s3⟩
      go_simp
      with_reducible rfl
    rotate_left
    · simp only [Act.put, List.setIfInBounds_toArray, List.set_cons_zero, List.set_cons_succ, i64_w, i32_w]
      rfl
    refine pure_ (i := 10) (N := some 12) (v := ?_) (a' := ?_) #[true, true, true, true, true, true, true, true, true, true, true] rfl rfl (by kernel_rfl) (fun _ _ _ h => h) (Or.inl ⟨by rfl, ?_⟩) ?_ ?_
    rotate_left
    · intro w'
      go_simp
      with_reducible rfl
    rotate_left
    · simp only [Act.put, List.setIfInBounds_toArray, List.set_cons_zero, List.set_cons_succ, i64_w, i32_w]
      rfl
    refine done_ (by kernel_rfl) ?_
    clear q0 q1 q2 q3
    obtain ⟨q0, q1, q2, q3⟩ := hHeld
    go_wp2
    obtain ⟨w3, hw3⟩ : ∃ v, w2.drew = v := ⟨_, rfl⟩
    have HB3 : Hd (Below w.heap.size w w3) := ⟨by rw [← hw3]; exact HB2.out.drew⟩
    have HR3 : Hd (OB w3 w.heap.size (.slice (some ⟨w1.heap.size, 0, none⟩) 0 N) []) := ⟨by rw [← hw3]; exact HR2.out⟩
    rw [hw3] at q0 q1 q2 q3 ⊢
    clear q0 q1 q2 q3 hw3 HY2 HB2 HR2
    go_loopg [9, 10, 11, 12, 38] nS (fun k v9 v10 v11 v12 v38 W => ∃ (i : Nat) (p : Int) (dd xx md mx : Nat) (Ad : Option Addr) (cd : Nat) (Ax : Option Addr) (cx : Nat) (out : List Int), v10 = .int .i64 p ∧ v11 = .slice Ad md cd ∧ v12 = .slice Ax mx cx ∧ v38 = .int .i64 i ∧ i + k = nS ∧ Hd (md + dd = nd ∧ mx + xx = nx ∧ md ≤ cd ∧ mx ≤ cx) ∧ Hd ((Kd.int .u8).C w Ad md (d.drop dd) ∧ (Kd.int .u8).C w Ax mx (x.drop xx)) ∧ Hd (WkS no (st.drop i) p md mx) ∧ Hd (out ++ apw old (st.drop i) (d.drop dd) (x.drop xx) p = apw old st d x pos) ∧ Hd (out.length + md + mx ≤ 65536) ∧ Hd (OB W w.heap.size v9 out) ∧ Hd (Below w.heap.size w W))
    case atStart => exact ⟨0, pos, 0, 0, nd, nx, A1, c1, A2, c2, [], rfl, rfl, rfl, rfl, by omega, ⟨⟨rfl, rfl, HDC.out, HXC.out⟩⟩, ⟨⟨HD.out, HX.out⟩⟩, HWK, ⟨rfl⟩, ⟨by have := HSZ.out; simp only [List.length_nil]; omega⟩, HR3, HB3⟩
    case round =>
      clear HR3 HB3 HWK
      obtain ⟨i, p, dd, xx, md, mx, Ad, cd, Ax, cx, out, rfl, rfl, rfl, rfl, hk, HM, HCC, HWK, HT, HLn, HOB, HB⟩ := hrel
      rcases gk with _ | g1
      · have hlt : decide ((i : Int) < (nS : Int)) = false := decide_eq_false (by omega)
        obtain rfl : i = nS := by omega
        have ht := HT.out
        rw [show st.drop i = [] from List.drop_eq_nil_of_le (by have := HN.out.1; omega), apw_nil, List.append_nil] at ht
        have HR := Hd.mk ht
        clear ht
        go_wp2
        go_ret2
        exact ⟨u9, by rw [HAP.out]; rfl, by rw [HAP.out, ← HR.out]; exact HOB.out, HB.out⟩
      · have hlt : decide ((i : Int) < (nS : Int)) = true := decide_eq_true (by omega)
        have hng : decide ((0 : Int) ≤ (i : Int)) = true := decide_eq_true (by omega)
        have hst := drop_rd82 st i (by have := HN.out.1; omega)
        obtain ⟨ad, e, x0, x1, x2⟩ := at_T82 (Kd.C_below HS.out HB.out) (i : Int) (by omega) (by omega)
        subst e
        rw [Int.toNat_natCast] at x0 x1 x2
        obtain ⟨s, hs⟩ : ∃ s, rd_T82 st (i : Int) = s := ⟨_, rfl⟩
        rw [hs] at x0 x1 x2 hst
        obtain ⟨f0, f1, f2⟩ := s
        have hwk := HWK.out
        rw [hst] at hwk
        have hwk : ((0 ≤ f0 ∧ f0 ≤ 65536) ∧ (0 ≤ f1 ∧ f1 ≤ 65536) ∧ -16777216 ≤ f2 ∧ f2 ≤ 16777216) ∧ (0 ≤ p ∧ p + f0 ≤ no) ∧ (f0.toNat ≤ md ∧ f1.toNat ≤ mx) ∧ WkS no (st.drop (i + 1)) (p + f0 + f2) (md - f0.toNat) (mx - f1.toNat) := hwk
        obtain ⟨⟨⟨a0, a1⟩, ⟨b0, b1⟩, e0, e1⟩, ⟨p0, p1⟩, ⟨m0, m1⟩, hwk⟩ := hwk
        obtain ⟨F0, rfl⟩ : ∃ F : Nat, f0 = (F : Int) := ⟨f0.toNat, by omega⟩
        obtain ⟨F1, rfl⟩ : ∃ F : Nat, f1 = (F : Int) := ⟨f1.toNat, by omega⟩
        obtain ⟨P, rfl⟩ : ∃ F : Nat, p = (F : Int) := ⟨p.toNat, by omega⟩
        simp only [Int.toNat_natCast] at m0 m1 hwk
        have hap := apw_cons old d (x.drop xx) ⟨F0, F1, f2⟩ (st.drop (i + 1)) P dd (by omega) (by omega) (by show (F0 : Int) ≤ _; omega) (by show (0 : Int) ≤ F0; omega)
        simp only [Int.toNat_natCast] at hap
        have ht := HT.out
        rw [hst, hap, List.drop_drop] at ht
        have HT2 := Hd.mk ht
        have HWK2 := Hd.mk hwk
        simp only at x0 x1 x2
        clear hst hs hwk hap ht HT HWK
        obtain ⟨wo, rfl⟩ : ∃ v : World, v = wr := ⟨_, rfl⟩
        have hba := (Below.refl wo.heap.size wo).alloc (Nat.le_refl _) (.cells #[.int .i64 (F0 : Int), .int .i64 (F1 : Int), .int .i64 f2] 82)
        have HO1 := Hd.mk (pw_own_below HOB.out hba)
        have HB1 := Hd.mk (below_step HB.out hba)
        have hbn := blk_new wo (.cells #[.int .i64 (F0 : Int), .int .i64 (F1 : Int), .int .i64 f2] 82)
        obtain ⟨gs, hgs⟩ : ∃ g, wo.heap.size = g := ⟨_, rfl⟩
        have HGS : Hd (w.heap.size ≤ gs) := ⟨by rw [← hgs]; exact HB.out.size⟩
        go_wp2
        rw [hgs] at hbn
        have HY1 := Hd.mk hbn
        clear hba hbn hgs x0 x1 x2 HOB HB
        go_loopg [9, 44] F0 (fun q v9 v44 W => ∃ j : Nat, v44 = .int .i64 j ∧ j + q = F0 ∧ Hd (OB W w.heap.size v9 (out ++ adds old d P dd j)) ∧ Hd (W.heap[gs]? = some (.cells #[.int .i64 (F0 : Int), .int .i64 (F1 : Int), .int .i64 f2] 82)) ∧ Hd (Below w.heap.size w W))
        case atStart => exact ⟨0, rfl, by omega, ⟨by rw [adds_zero, List.append_nil]; exact HO1.out⟩, HY1, HB1⟩
        case round =>
          clear HO1 HB1 HY1
          obtain ⟨j, rfl, hjq, HOB, HY, HB⟩ := hrel
          rcases gk with _ | q
          · have hlt : decide ((j : Int) < (F0 : Int)) = false := decide_eq_false (by omega)
            obtain rfl : j = F0 := by omega
            have hF0 : j ≤ md := m0
            have hF1 : F1 ≤ mx := m1
            have hF1c : F1 ≤ cx := Nat.le_trans m1 HM.out.2.2.2
            have hsx := C_pre HCC.out.2 F1 m1
            obtain ⟨v', w', hrun, ho', hg', _, _⟩ := run_app (P := Try.prog) wr w.heap.size 24 24 5 (.int .u8 0) 1 1 eltB u9 _ _ HOB.out Ax F1 cx _ (Src.of_C (Kd.C_below hsx HB.out)) (by rw [List.length_append, adds_len]; have := HLn.out; omega) HB.out.size
            have HOZ : Hd (OB w' w.heap.size v' (out ++ adds old d P dd j ++ (x.drop xx).take F1)) := ⟨OB.snoc ho' (by rw [List.length_take, List.length_drop]; have := HN.out; have := HM.out; omega)⟩
            have HYZ := Hd.mk (blk_grown HY.out hg' (own_ne HOB.out HY.out (by decide)))
            have HBZ := Hd.mk (HB.out.grown hg' HB.out.size (own_base HOB.out))
            have c1' := blk_cell HY.out 1
            simp at c1'
            have z0 := blk_cell HYZ.out 0
            have z1 := blk_cell HYZ.out 1
            have z2 := blk_cell HYZ.out 2
            simp at z0 z1 z2
            clear hsx ho' hg' HY HOB HB hjq
            go_wp2
            clear c1' hrun
            refine start_ (n := 10) (S := fun w' => w'.cell? ⟨gs, 0, none⟩ = some (.int .i64 (j : Int)) ∧ w'.cell? ⟨gs, 1, none⟩ = some (.int .i64 (F1 : Int)) ∧ w'.cell? ⟨gs, 2, none⟩ = some (.int .i64 f2)) (ds := []) #[false, false, false, false, false, false, false, false, false, false] (by kernel_rfl) rfl rfl ⟨z0, z1, z2⟩ (fun hHeld => ?_)
            refine pure_ (i := 0) (N := some 68) (v := ?_) (a' := ?_) #[true, false, false, false, false, false, false, false, false, false] rfl rfl (by kernel_rfl) (fun _ _ _ h => h) (Or.inl ⟨by rfl, ?_⟩) ?_ ?_
            rotate_left
            · intro w'
              go_simp
              with_reducible rfl
            rotate_left
            · simp only [Act.put, List.setIfInBounds_toArray, List.set_cons_zero, List.set_cons_succ, i64_w, i32_w]
              rfl
            refine pure_ (i := 1) (N := some 69) (v := ?_) (a' := ?_) #[true, true, false, false, false, false, false, false, false, false] rfl rfl (by kernel_rfl) (fun _ _ _ h => h) (Or.inl ⟨by rfl, ?_⟩) ?_ ?_
            rotate_left
            · intro w'
              go_simp
              with_reducible rfl
            rotate_left
            · simp only [Act.put, List.setIfInBounds_toArray, List.set_cons_zero, List.set_cons_succ, i64_w, i32_w]
              rfl
            refine pure_ (i := 4) (N := some 72) (v := ?_) (a' := ?_) #[true, true, false, false, true, false, false, false, false, false] rfl rfl (by kernel_rfl) (fun _ _ _ h => h) (Or.inl ⟨by rfl, ?_⟩) ?_ ?_
            rotate_left
            · intro w'
              go_simp
              with_reducible rfl
            rotate_left
            · simp only [Act.put, List.setIfInBounds_toArray, List.set_cons_zero, List.set_cons_succ, i64_w, i32_w]
              rfl
            refine pure_ (i := 5) (N := some 73) (v := ?_) (a' := ?_) #[true, true, false, false, true, true, false, false, false, false] rfl rfl (by kernel_rfl) (fun _ _ _ h => h) (Or.inl ⟨by rfl, ?_⟩) ?_ ?_
            rotate_left
            · intro w'
              go_simp
              with_reducible rfl
            rotate_left
            · simp only [Act.put, List.setIfInBounds_toArray, List.set_cons_zero, List.set_cons_succ, i64_w, i32_w]
              rfl
            refine take_ (i := 2) (N := some 70) (v := ?_) (a' := ?_) #[true, true, true, false, true, true, false, false, false, false] rfl rfl (by kernel_rfl) (fun _ _ _ h => h) (Or.inl ⟨by rfl, ?_⟩) hHeld ?_ ?_
            rotate_left
            · rintro w' ⟨s0, s1, s2⟩
              go_simp
              with_reducible rfl
            rotate_left
            · simp only [Act.put, List.setIfInBounds_toArray, List.set_cons_zero, List.set_cons_succ, i64_w, i32_w]
              rfl
            refine pure_ (i := 3) (N := some 71) (v := ?_) (a' := ?_) #[true, true, true, true, true, true, false, false, false, false] rfl rfl (by kernel_rfl) (fun _ _ _ h => h) (Or.inl ⟨by rfl, ?_⟩) ?_ ?_
            rotate_left
            · intro w'
              go_simp
              with_reducible rfl
            rotate_left
            · simp only [Act.put, List.setIfInBounds_toArray, List.set_cons_zero, List.set_cons_succ, i64_w, i32_w]
              rfl
            refine pure_ (i := 8) (N := some 11) (v := ?_) (a' := ?_) #[true, true, true, true, true, true, false, false, true, false] rfl rfl (by kernel_rfl) (fun _ _ _ h => h) (Or.inl ⟨by rfl, ?_⟩) ?_ ?_
            rotate_left
            · intro w'
              go_simp
              with_reducible rfl
            rotate_left
            · simp only [Act.put, List.setIfInBounds_toArray, List.set_cons_zero, List.set_cons_succ, i64_w, i32_w]
              rfl
            refine take_ (i := 6) (N := some 74) (v := ?_) (a' := ?_) #[true, true, true, true, true, true, true, false, true, false] rfl rfl (by kernel_rfl) (fun _ _ _ h => h) (Or.inl ⟨by rfl, ?_⟩) hHeld ?_ ?_
            rotate_left
            · rintro w' ⟨s0, s1, s2⟩
              go_simp
              with_reducible rfl
            rotate_left
            · simp only [Act.put, List.setIfInBounds_toArray, List.set_cons_zero, List.set_cons_succ, i64_w, i32_w]
              rfl
            refine pure_ (i := 7) (N := some 75) (v := ?_) (a' := ?_) #[true, true, true, true, true, true, true, true, true, false] rfl rfl (by kernel_rfl) (fun _ _ _ h => h) (Or.inl ⟨by rfl, ?_⟩) ?_ ?_
            rotate_left
            · intro w'
              go_simp
              with_reducible rfl
            rotate_left
            · simp only [Act.put, List.setIfInBounds_toArray, List.set_cons_zero, List.set_cons_succ, i64_w, i32_w]
              rfl
            refine pure_ (i := 9) (N := some 12) (v := ?_) (a' := ?_) #[true, true, true, true, true, true, true, true, true, true] rfl rfl (by kernel_rfl) (fun _ _ _ h => h) (Or.inl ⟨by rfl, ?_⟩) ?_ ?_
            rotate_left
            · intro w'
              go_simp
              with_reducible rfl
            rotate_left
            · simp only [Act.put, List.setIfInBounds_toArray, List.set_cons_zero, List.set_cons_succ, i64_w, i32_w]
              rfl
            refine done_ (by kernel_rfl) ?_
            clear z0 z1 z2
            obtain ⟨z0, z1, z2⟩ := hHeld
            go_wp2
            clear z0 z1 z2
            go_roundg g1
            case measure => omega
            case rel =>
              refine ⟨i + 1, (P : Int) + ((j : Int) + f2), dd + j, xx + F1, md - j, mx - F1, suf Ad cd j, cd - j, suf Ax cx F1, cx - F1, out ++ adds old d P dd j ++ (x.drop xx).take F1, by go_num, rfl, rfl, by go_num, by omega, ⟨by have := HM.out; omega⟩, ⟨?_⟩, ⟨by rw [← Int.add_assoc]; exact HWK2.out⟩, ⟨?_⟩, ⟨?_⟩, ⟨HOZ.out⟩, ⟨HBZ.out.drew⟩⟩
              · have h1 := C_suf HCC.out.1 HM.out.2.2.1 hF0
                have h2 := C_suf HCC.out.2 HM.out.2.2.2 hF1
                rw [List.drop_drop] at h1 h2
                exact ⟨h1, h2⟩
              · rw [← HT2.out, ← Int.add_assoc]
                simp only [List.append_assoc]
              · rw [List.length_append, List.length_append, adds_len, List.length_take, List.length_drop]
                have := HLn.out
                have := HM.out
                have := HN.out
                omega
          · have hlt : decide ((j : Int) < (F0 : Int)) = true := decide_eq_true (by omega)
            obtain ⟨ado, hAo, co'⟩ := at_byte HO.out (P + j) (by omega)
            obtain ⟨add, hAd, cd'⟩ := at_byte HCC.out.1 j (by omega)
            have co' := (HB.out.cell (World.block_lt_of_cell? w _ co')).trans co'
            have cd' := (HB.out.cell (World.block_lt_of_cell? w _ cd')).trans cd'
            subst hAo
            subst hAd
            obtain ⟨a, ha⟩ : ∃ a, gb old (P + j) = a := ⟨_, rfl⟩
            obtain ⟨b, hb⟩ : ∃ b, gb (d.drop dd) j = b := ⟨_, rfl⟩
            rw [ha] at co'
            rw [hb] at cd'
            have HAB : Hd (adds old d P dd (j + 1) = adds old d P dd j ++ [(a + b) % 256]) := ⟨by
              rw [adds_snoc, ← ha, ← hb]
              have e1 : rd old ((P : Int) + (j : Int)) = gb old (P + j) := by
                unfold rd gb
                rw [show ((P : Int) + (j : Int)).toNat = P + j by omega]
              have e2 : rd d ((dd : Int) + (j : Int)) = gb (d.drop dd) j := by
                unfold rd gb
                rw [show ((dd : Int) + (j : Int)).toNat = dd + j by omega]
                simp [List.getD_eq_getElem?_getD]
              rw [e1, e2]⟩
            clear ha hb
            have hba := ((Below.refl wr.heap.size wr).alloc (Nat.le_refl _) (.cells #[.int .u8 ((a + b) % 256)] 5)).drew
            have hno : ((wr.alloc (.cells #[.int .u8 ((a + b) % 256)] 5)).drew).heap[wr.heap.size]? = some (.cells #[.int .u8 ((a + b) % 256)] 5) := blk_new wr _
            have hpo := pw_own_below HOB.out hba
            obtain ⟨v', w', hrun, ho', hg'⟩ := push8 hpo (by have := HB.out.size; have := hba.size; omega) hno (by rw [List.length_append, adds_len]; have := HLn.out; omega)
            have hbz := below_step HB.out hba
            have HOZ : Hd (OB w' w.heap.size v' (out ++ adds old d P dd (j + 1))) := ⟨by rw [HAB.out, ← List.append_assoc]; exact ho'⟩
            have HYZ := Hd.mk (blk_grown (blk_below HY.out hba) hg' (own_ne hpo (blk_below HY.out hba) (by decide)))
            have HBZ := Hd.mk (hbz.grown hg' hbz.size (own_base hpo))
            have HBA := Hd.mk hba
            obtain ⟨K, hK⟩ : ∃ K, P + j = K := ⟨_, rfl⟩
            have hkn : K < no := by omega
            have hjm : j < md := by omega
            have HWP : Hd (wrap64 ((P : Int) + (j : Int)) = (K : Int)) := ⟨by rw [← hK, w64 _ (by omega)]; omega⟩
            rw [hK] at co'
            clear hba hno hpo ho' hg' hbz hK HAB HOB HY HB
            have hwp := HWP.out
            have hwu : IntKind.u8.wrap (a + b) = (a + b) % 256 := IntKind.wrap_u8 _
            go_upto_region 12 with fail
            refine start_ (n := 15) (S := fun w' => w'.cell? (ado.add K) = some (.int .u8 a) ∧ w'.cell? (add.add j) = some (.int .u8 b)) (ds := [13]) #[false, false, false, false, false, false, false, false, false, false, false, false, false, false, false] (by kernel_rfl) rfl rfl ⟨co', cd'⟩ (fun hHeld => ?_)
            refine pure_ (i := 0) (N := some 47) (v := ?_) (a' := ?_) #[true, false, false, false, false, false, false, false, false, false, false, false, false, false, false] rfl rfl (by kernel_rfl) (fun _ _ _ h => h) (Or.inl ⟨by rfl, ?_⟩) ?_ ?_
            rotate_left
            · intro w'
              go_simp
              with_reducible rfl
            rotate_left
            · simp only [Act.put, List.setIfInBounds_toArray, List.set_cons_zero, List.set_cons_succ, i64_w, i32_w]
              rfl
            refine pure_ (i := 1) (N := some 48) (v := ?_) (a' := ?_) #[true, true, false, false, false, false, false, false, false, false, false, false, false, false, false] rfl rfl (by kernel_rfl) (fun _ _ _ h => h) (Or.inl ⟨by rfl, ?_⟩) ?_ ?_
            rotate_left
            · intro w'
              go_simp
              with_reducible rfl
            rotate_left
            · simp only [Act.put, List.setIfInBounds_toArray, List.set_cons_zero, List.set_cons_succ, i64_w, i32_w]
              rfl
            refine pure_ (i := 2) (N := some 49) (v := ?_) (a' := ?_) #[true, true, true, false, false, false, false, false, false, false, false, false, false, false, false] rfl rfl (by kernel_rfl) (fun _ _ _ h => h) (Or.inl ⟨by rfl, ?_⟩) ?_ ?_
            rotate_left
            · intro w'
              go_simp
              with_reducible rfl
            rotate_left
            · simp only [Act.put, List.setIfInBounds_toArray, List.set_cons_zero, List.set_cons_succ, i64_w, i32_w]
              rfl
            refine pure_ (i := 3) (N := some 50) (v := ?_) (a' := ?_) #[true, true, true, true, false, false, false, false, false, false, false, false, false, false, false] rfl rfl (by kernel_rfl) (fun _ _ _ h => h) (Or.inl ⟨by rfl, ?_⟩) ?_ ?_
            rotate_left
            · intro w'
              go_simp
              with_reducible rfl
            rotate_left
            · simp only [Act.put, List.setIfInBounds_toArray, List.set_cons_zero, List.set_cons_succ, i64_w, i32_w]
              rfl
            refine pure_ (i := 4) (N := some 51) (v := ?_) (a' := ?_) #[true, true, true, true, true, false, false, false, false, false, false, false, false, false, false] rfl rfl (by kernel_rfl) (fun _ _ _ h => h) (Or.inl ⟨by rfl, ?_⟩) ?_ ?_
            rotate_left
            · intro w'
              go_simp
              with_reducible rfl
            rotate_left
            · simp only [Act.put, List.setIfInBounds_toArray, List.set_cons_zero, List.set_cons_succ, i64_w, i32_w]
              rfl
            refine pure_ (i := 5) (N := some 52) (v := ?_) (a' := ?_) #[true, true, true, true, true, true, false, false, false, false, false, false, false, false, false] rfl rfl (by kernel_rfl) (fun _ _ _ h => h) (Or.inl ⟨by rfl, ?_⟩) ?_ ?_
            rotate_left
            · intro w'
              go_simp
              with_reducible rfl
            rotate_left
            · simp only [Act.put, List.setIfInBounds_toArray, List.set_cons_zero, List.set_cons_succ, i64_w, i32_w]
              rfl
            refine pure_ (i := 7) (N := some 54) (v := ?_) (a' := ?_) #[true, true, true, true, true, true, false, true, false, false, false, false, false, false, false] rfl rfl (by kernel_rfl) (fun _ _ _ h => h) (Or.inl ⟨by rfl, ?_⟩) ?_ ?_
            rotate_left
            · intro w'
              go_simp
              with_reducible rfl
            rotate_left
            · simp only [Act.put, List.setIfInBounds_toArray, List.set_cons_zero, List.set_cons_succ, i64_w, i32_w]
              rfl
            refine pure_ (i := 8) (N := some 55) (v := ?_) (a' := ?_) #[true, true, true, true, true, true, false, true, true, false, false, false, false, false, false] rfl rfl (by kernel_rfl) (fun _ _ _ h => h) (Or.inl ⟨by rfl, ?_⟩) ?_ ?_
            rotate_left
            · intro w'
              go_simp
              with_reducible rfl
            rotate_left
            · simp only [Act.put, List.setIfInBounds_toArray, List.set_cons_zero, List.set_cons_succ, i64_w, i32_w]
              rfl
            refine pure_ (i := 9) (N := some 56) (v := ?_) (a' := ?_) #[true, true, true, true, true, true, false, true, true, true, false, false, false, false, false] rfl rfl (by kernel_rfl) (fun _ _ _ h => h) (Or.inl ⟨by rfl, ?_⟩) ?_ ?_
            rotate_left
            · intro w'
              go_simp
              with_reducible rfl
            rotate_left
            · simp only [Act.put, List.setIfInBounds_toArray, List.set_cons_zero, List.set_cons_succ, i64_w, i32_w]
              rfl
            refine take_ (i := 6) (N := some 53) (v := ?_) (a' := ?_) #[true, true, true, true, true, true, true, true, true, true, false, false, false, false, false] rfl rfl (by kernel_rfl) (fun _ _ _ h => h) (Or.inl ⟨by rfl, ?_⟩) hHeld ?_ ?_
            rotate_left
            · rintro w' ⟨s0, s1⟩
              go_simp
              with_reducible rfl
            rotate_left
            · simp only [Act.put, List.setIfInBounds_toArray, List.set_cons_zero, List.set_cons_succ, i64_w, i32_w]
              rfl
            refine take_ (i := 10) (N := some 57) (v := ?_) (a' := ?_) #[true, true, true, true, true, true, true, true, true, true, true, false, false, false, false] rfl rfl (by kernel_rfl) (fun _ _ _ h => h) (Or.inl ⟨by rfl, ?_⟩) hHeld ?_ ?_
            rotate_left
            · rintro w' ⟨s0, s1⟩
              go_simp
              with_reducible rfl
            rotate_left
            · simp only [Act.put, List.setIfInBounds_toArray, List.set_cons_zero, List.set_cons_succ, i64_w, i32_w]
              rfl
            refine pure_ (i := 11) (N := some 58) (v := ?_) (a' := ?_) #[true, true, true, true, true, true, true, true, true, true, true, true, false, false, false] rfl rfl (by kernel_rfl) (fun _ _ _ h => h) (Or.inl ⟨by rfl, ?_⟩) ?_ ?_
            rotate_left
            · intro w'
              go_simp
              with_reducible rfl
            rotate_left
            · simp only [Act.put, List.setIfInBounds_toArray, List.set_cons_zero, List.set_cons_succ, i64_w, i32_w]
              rfl
            refine one_ (i := 12) (N := some 59) #[true, true, true, true, true, true, true, true, true, true, true, true, true, false, false] rfl rfl (by kernel_rfl) (by decide) (fun K hK => ?_)
            refine value_ (w1 := ?_) (v := ?_) (by rfl) rfl ?_ ?_
            rotate_left 2
            · go_simp
              constructor
              · rfl
              · rfl
            refine hK.out _ _ ⟨pw_cell_below HBA.out co', pw_cell_below HBA.out cd'⟩ (fun hHeld => ?_)
            clear hK K
            refine norm_ (a' := ?_) ?_ ?_
            rotate_left
            · show Act.put _ (some 59) _ = _
              simp only [Act.put, List.setIfInBounds_toArray, List.set_cons_zero, List.set_cons_succ, i64_w, i32_w]
              rfl
            refine last_ (i := 13) (N := some 60) #[true, true, true, true, true, true, true, true, true, true, true, true, true, true, false] rfl rfl (by kernel_rfl) (by decide) (fun K hK => ?_)
            refine value_ (w1 := w') (v := v') (by rfl) rfl ?_ ?_
            · (go_simp; first | done | (rw [hrun]; rfl))
            refine hK.out _ _ ?_
            clear hK K
            refine norm_ (a' := ?_) ?_ ?_
            rotate_left
            · show Act.put _ (some 60) _ = _
              simp only [Act.put, List.setIfInBounds_toArray, List.set_cons_zero, List.set_cons_succ, i64_w, i32_w]
              rfl
            refine pure_ (i := 14) (N := some 9) (v := ?_) (a' := ?_) #[true, true, true, true, true, true, true, true, true, true, true, true, true, true, true] rfl rfl (by kernel_rfl) (fun _ _ _ h => h) (Or.inl ⟨by rfl, ?_⟩) ?_ ?_
            rotate_left
            · intro w'
              go_simp
              with_reducible rfl
            rotate_left
            · simp only [Act.put, List.setIfInBounds_toArray, List.set_cons_zero, List.set_cons_succ, i64_w, i32_w]
              rfl
            refine done_ (by kernel_rfl) ?_
            clear hHeld co' cd' hrun hwp hwu HWP HBA
            go_wp2
            go_roundg q
            case measure => omega
            case rel => exact ⟨j + 1, by go_num, by omega, HOZ, HYZ, HBZ⟩
  · have hrn : (r == 0) = false := by simpa using hr0
    have HAP : Hd (apR old pos st d x size = ([], r)) := ⟨by
      have := pchk_or pos st d x old.length size
      rw [HR.out] at this
      unfold apR
      rw [HR.out, if_neg hr0]
      rcases this with e | e
      · exact absurd e hr0
      · rw [e]⟩
    clear hr0
    go_wp2
    go_ret2
    exact ⟨.slice none 0 0, by rw [HAP.out]; rfl, by rw [HAP.out]; exact own_nil _ _ _ _, HB1.out⟩
end Go.Proofs.Ytinlfoblpgpikaa
