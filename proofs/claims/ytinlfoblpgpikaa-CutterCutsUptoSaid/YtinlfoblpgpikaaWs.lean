/- cutter: the same windows, by contract. -/
import Derived.Test.YtinlfoblpgpikaaWr
namespace Go.Proofs.Ytinlfoblpgpikaa
open Go.RowKit Go.Shelf Go.Proofs.YtinlfoblpgpikaaW.PrintWords Go.Proofs.YtinlfoblpgpikaaW.PrintLast Go.Proofs.YtinlfoblpgpikaaW.PrintMore Go.Proofs.Ytinlfoblpgpikaa.Pr
set_option linter.unusedVariables false
set_option linter.unusedSimpArgs false
theorem rd_map45 (X : List S43) (i : Nat) (h : i < X.length) : rd_T45 (X.map to45) (i : Int) = to45 (rd_T43 X (i : Int)) := by
  simp [rd_T45, rd_T43, List.getD_eq_getElem?_getD, List.getElem?_eq_getElem h]
/-- plain of lists that are read, in any world behind. -/
theorem plain_r {A0 : Option Addr} {c0 n : Nat} {st : List S82} {A1 : Option Addr} {n1 c1 : Nat} {A2 : Option Addr} {n2 c2 : Nat} {w : World} (hS : Kd.C k82 w A0 n st) (hl : n ≤ 5864062014805) :
    Calls Try.prog 17 #[.agg #[.slice A0 n c0, .slice A1 n1 c1, .slice A2 n2 c2]] w fun e w' => ∃ B b, e = .returned (.agg #[.slice B n b, .slice A1 n1 c1, .slice A2 n2 c2]) ∧ (Kd.C k81 w' B n (st.map t81) ∧ n ≤ b) ∧ Below w.heap.size w w' := by
  obtain rfl : st.length = n := hS.1
  refine (plain_c hS hl).mono ?_
  rintro e w' ⟨v, rfl, ov, hv⟩
  obtain ⟨B, bb, rfl⟩ := own_slice' ov rfl
  have := OS.C81 ov rfl
  rw [List.length_map] at this
  exact ⟨B, bb, rfl, ⟨this, own_cap' ov⟩, hv⟩
set_option maxRecDepth 100000 in
set_option maxHeartbeats 16000000 in
theorem sameW_c {A : Option Addr} {n c : Nat} {X : List S43} {B : Option Addr} {e : Nat} {Y : List S45} {w : World} (hX : Kd.C k43 w A n X) (hc : n ≤ c) (hY : Kd.C k45 w B n Y) (he : n ≤ e) (hxy : X.map to45 = Y) (hs : ∀ y ∈ X, y.f1.f0.length ≤ 5864062014805) :
    Calls Try.prog 15 #[.slice A n c, .slice B n e] w fun e w' => e = .returned (.bool true) ∧ Below w.heap.size w w' := by
  have hnm := hX.2.1
  have hXl : X.length = n := hX.1
  have HX := Hd.mk hX
  have HY := Hd.mk hY
  have HXY := Hd.mk (And.intro hXl hxy)
  have HS := Hd.mk hs
  have hnn : ((n : Int) == (n : Int)) = true := by simp
  clear hX hY hXl hxy hs
  go_enter Try.func15, Try.ntmps15
  go_wp2
  clear hnn
  go_loopg [14] n (fun k v14 W => ∃ i : Nat, v14 = .int .i64 i ∧ i + k = n ∧ Hd (Below w.heap.size w W))
  case atStart => exact ⟨0, rfl, by omega, ⟨Below.refl _ _⟩⟩
  case round =>
    obtain ⟨i, rfl, hk, HB⟩ := hrel
    rcases gk with _ | g1
    · have hlt : decide ((i : Int) < (n : Int)) = false := decide_eq_false (by omega)
      go_wp2
      go_ret
      exact ⟨rfl, HB.out⟩
    · have hlt : decide ((i : Int) < (n : Int)) = true := decide_eq_true (by omega)
      have hng : decide ((0 : Int) ≤ (i : Int)) = true := decide_eq_true (by omega)
      have hin : i < n := by omega
      obtain ⟨ad, A1, a1, A2, a2, A3, a3, e1, x0, x1, x2, x3, l1, g1', l2, g2', l3, g3'⟩ := at_T43 (Kd.C_below HX.out HB.out) (i : Int) (by omega) (by omega)
      subst e1
      have hrm := rd_map45 X i (by have := HXY.out.1; omega)
      rw [HXY.out.2] at hrm
      obtain ⟨bd, B1, b1, B2, b2, B3, b3, e2, y0, y1, y2, y3, m1, q1', m2, q2', m3, q3'⟩ := at_T45 (Kd.C_below HY.out HB.out) (i : Int) (by omega) (by omega)
      subst e2
      rw [hrm] at y0 y1 y2 y3 m1 q1' m2 q2' m3 q3'
      have hlen : (rd_T43 X (i : Int)).f1.f0.length ≤ 5864062014805 := HS.out _ (by
        have hi : i < X.length := by have := HXY.out.1; omega
        have : rd_T43 X (i : Int) = X[i] := by simp [rd_T43, List.getD_eq_getElem?_getD, List.getElem?_eq_getElem hi]
        rw [this]
        exact List.getElem_mem hi)
      obtain ⟨z, hz⟩ : ∃ z, rd_T43 X (i : Int) = z := ⟨_, rfl⟩
      rw [hz] at x0 x1 x2 x3 l1 g1' l2 g2' l3 g3' y0 y1 y2 y3 m1 q1' m2 q2' m3 q3' hlen
      clear hrm hz
      obtain ⟨p, ⟨st, dl, xl⟩⟩ := z
      have ht : (to45 ⟨p, ⟨st, dl, xl⟩⟩) = (⟨p, ⟨st.map t81, dl, xl⟩⟩ : S45) := rfl
      rw [ht] at y0 y1 y2 y3 m1 q1' m2 q2' m3 q3'
      clear ht
      simp only at x0 x1 x2 x3 l1 g1' l2 g2' l3 g3' y0 y1 y2 y3 m1 q1' m2 q2' m3 q3' hlen
      rw [List.length_map] at y1 m1 q1'
      obtain ⟨ns, hns⟩ : ∃ k, st.length = k := ⟨_, rfl⟩
      obtain ⟨nd, hnd⟩ : ∃ k, dl.length = k := ⟨_, rfl⟩
      obtain ⟨nx, hnx⟩ : ∃ k, xl.length = k := ⟨_, rfl⟩
      rw [hns] at x1 l1 g1' y1 m1 q1' hlen
      rw [hnd] at x2 l2 g2' y2 m2 q2'
      rw [hnx] at x3 l3 g3' y3 m3 q3'
      rw [Int.toNat_natCast] at x0 x1 x2 x3 y0 y1 y2 y3
      clear hns hnd hnx
      have hba := (Below.refl wr.heap.size wr).alloc (Nat.le_refl _) (.cells #[.int .i64 p, .slice A1 ns a1, .slice A2 nd a2, .slice A3 nx a3] 43)
      have hbn := blk_new wr (.cells #[.int .i64 p, .slice A1 ns a1, .slice A2 nd a2, .slice A3 nx a3] 43)
      obtain ⟨gb, hgb⟩ : ∃ g, wr.heap.size = g := ⟨_, rfl⟩
      rw [hgb] at hbn
      obtain ⟨w1, hw1⟩ : ∃ v, wr.alloc (.cells #[.int .i64 p, .slice A1 ns a1, .slice A2 nd a2, .slice A3 nx a3] 43) = v := ⟨_, rfl⟩
      have hp0 := pw_cell_below hba y0
      have hp1 := pw_cell_below hba y1
      have hp2 := pw_cell_below hba y2
      have hp3 := pw_cell_below hba y3
      rw [hw1] at hba hbn hp0 hp1 hp2 hp3
      have HW1 := Hd.mk hw1
      have HB1 := Hd.mk (below_step HB.out hba)
      have c0 := blk_cell hbn 0
      have c1' := blk_cell hbn 1
      have c2' := blk_cell hbn 2
      have c3' := blk_cell hbn 3
      simp at c0 c1' c2' c3'
      have HE : Hd (Kd.C k82 w1 A1 ns st ∧ EdR w1 B1 b1 ns (st.map t81) B2 b2 nd dl B3 b3 nx xl ∧ (Kd.int .u8).C w1 A2 nd dl ∧ (Kd.int .u8).C w1 A3 nx xl) := ⟨⟨Kd.C_below g1' hba, ⟨Kd.C_below q1' hba, Kd.C_below q2' hba, Kd.C_below q3' hba, m1⟩, Kd.C_below g2' hba, Kd.C_below g3' hba⟩⟩
      clear hw1 hba hbn HB l1 g1' l2 g2' l3 g3' y0 y1 y2 y3 m1 q1' m2 q2' m3 q3'
      go_upto_region 6 with fail
      rw [HW1.out]
      have HBD := Hd.mk (Below.drew' w1)
      have HPL : Hd (∀ W, Below w1.heap.size w1 W → Calls Try.prog 17 #[.agg #[.slice A1 ns a1, .slice A2 nd a2, .slice A3 nx a3]] W fun e w' => ∃ B b, e = .returned (.agg #[.slice B ns b, .slice A2 nd a2, .slice A3 nx a3]) ∧ (Kd.C k81 w' B ns (st.map t81) ∧ ns ≤ b) ∧ Below W.heap.size W w') := ⟨fun W hW => plain_r (Kd.C_below HE.out.1 hW) hlen⟩
      have hlim : ns ≤ 9223372036854775806 := by omega
      have HQ := Hd.mk (And.intro hlen hlim)
      have hpp : (p == p) = true := by simp
      have hin2 : i < n := hin
      clear hlen hlim HW1 x0 x1 x2 x3
      refine start_ (n := 20) (S := fun w' => w'.cell? ⟨gb, 0, none⟩ = some (.int .i64 p) ∧ w'.cell? ⟨gb, 1, none⟩ = some (.slice A1 ns a1) ∧ w'.cell? ⟨gb, 2, none⟩ = some (.slice A2 nd a2) ∧ w'.cell? ⟨gb, 3, none⟩ = some (.slice A3 nx a3) ∧ w'.cell? (bd.add (i * 4)) = some (.int .i64 p) ∧ w'.cell? ⟨(bd.add (i * 4)).block, (bd.add (i * 4)).off + 1, none⟩ = some (.slice B1 ns b1) ∧ w'.cell? ⟨(bd.add (i * 4)).block, (bd.add (i * 4)).off + 2, none⟩ = some (.slice B2 nd b2) ∧ w'.cell? ⟨(bd.add (i * 4)).block, (bd.add (i * 4)).off + 3, none⟩ = some (.slice B3 nx b3)) (ds := []) #[false, false, false, false, false, false, false, false, false, false, false, false, false, false, false, false, false, false, false, false] (by kernel_rfl) rfl rfl ⟨c0, c1', c2', c3', hp0, hp1, hp2, hp3⟩ (fun hHeld => ?_)
      refine pure_ (i := 0) (N := some 19) (v := ?_) (a' := ?_) #[true, false, false, false, false, false, false, false, false, false, false, false, false, false, false, false, false, false, false, false] rfl rfl (by kernel_rfl) (fun _ _ _ h => h) (Or.inl ⟨by rfl, ?_⟩) ?_ ?_
      rotate_left
      · intro w'
        go_simp
        with_reducible rfl
      rotate_left
      · simp only [Act.put, List.setIfInBounds_toArray, List.set_cons_zero, List.set_cons_succ, i64_w, i32_w]
        rfl
      refine pure_ (i := 2) (N := some 21) (v := ?_) (a' := ?_) #[true, false, true, false, false, false, false, false, false, false, false, false, false, false, false, false, false, false, false, false] rfl rfl (by kernel_rfl) (fun _ _ _ h => h) (Or.inl ⟨by rfl, ?_⟩) ?_ ?_
      rotate_left
      · intro w'
        go_simp
        with_reducible rfl
      rotate_left
      · simp only [Act.put, List.setIfInBounds_toArray, List.set_cons_zero, List.set_cons_succ, i64_w, i32_w]
        rfl
      refine pure_ (i := 3) (N := some 22) (v := ?_) (a' := ?_) #[true, false, true, true, false, false, false, false, false, false, false, false, false, false, false, false, false, false, false, false] rfl rfl (by kernel_rfl) (fun _ _ _ h => h) (Or.inl ⟨by rfl, ?_⟩) ?_ ?_
      rotate_left
      · intro w'
        go_simp
        with_reducible rfl
      rotate_left
      · simp only [Act.put, List.setIfInBounds_toArray, List.set_cons_zero, List.set_cons_succ, i64_w, i32_w]
        rfl
      refine pure_ (i := 4) (N := some 23) (v := ?_) (a' := ?_) #[true, false, true, true, true, false, false, false, false, false, false, false, false, false, false, false, false, false, false, false] rfl rfl (by kernel_rfl) (fun _ _ _ h => h) (Or.inl ⟨by rfl, ?_⟩) ?_ ?_
      rotate_left
      · intro w'
        go_simp
        with_reducible rfl
      rotate_left
      · simp only [Act.put, List.setIfInBounds_toArray, List.set_cons_zero, List.set_cons_succ, i64_w, i32_w]
        rfl
      refine pure_ (i := 5) (N := some 24) (v := ?_) (a' := ?_) #[true, false, true, true, true, true, false, false, false, false, false, false, false, false, false, false, false, false, false, false] rfl rfl (by kernel_rfl) (fun _ _ _ h => h) (Or.inl ⟨by rfl, ?_⟩) ?_ ?_
      rotate_left
      · intro w'
        go_simp
        with_reducible rfl
      rotate_left
      · simp only [Act.put, List.setIfInBounds_toArray, List.set_cons_zero, List.set_cons_succ, i64_w, i32_w]
        rfl
      refine take_ (i := 1) (N := some 20) (v := ?_) (a' := ?_) #[true, true, true, true, true, true, false, false, false, false, false, false, false, false, false, false, false, false, false, false] rfl rfl (by kernel_rfl) (fun _ _ _ h => h) (Or.inl ⟨by rfl, ?_⟩) hHeld ?_ ?_
      rotate_left
      · rintro w' ⟨s0, s1, s2, s3, s4, s5, s6, s7⟩
        go_simp
        with_reducible rfl
      rotate_left
      · simp only [Act.put, List.setIfInBounds_toArray, List.set_cons_zero, List.set_cons_succ, i64_w, i32_w]
        rfl
      refine take_ (i := 6) (N := some 25) (v := ?_) (a' := ?_) #[true, true, true, true, true, true, true, false, false, false, false, false, false, false, false, false, false, false, false, false] rfl rfl (by kernel_rfl) (fun _ _ _ h => h) (Or.inl ⟨by rfl, ?_⟩) hHeld ?_ ?_
      rotate_left
      · rintro w' ⟨s0, s1, s2, s3, s4, s5, s6, s7⟩
        go_simp
        with_reducible rfl
      rotate_left
      · simp only [Act.put, List.setIfInBounds_toArray, List.set_cons_zero, List.set_cons_succ, i64_w, i32_w]
        rfl
      refine pure_ (i := 7) (N := some 26) (v := ?_) (a' := ?_) #[true, true, true, true, true, true, true, true, false, false, false, false, false, false, false, false, false, false, false, false] rfl rfl (by kernel_rfl) (fun _ _ _ h => h) (Or.inl ⟨by rfl, ?_⟩) ?_ ?_
      rotate_left
      · intro w'
        go_simp
        with_reducible rfl
      rotate_left
      · simp only [Act.put, List.setIfInBounds_toArray, List.set_cons_zero, List.set_cons_succ, i64_w, i32_w]
        rfl
      refine pure_ (i := 8) (N := some 27) (v := ?_) (a' := ?_) #[true, true, true, true, true, true, true, true, true, false, false, false, false, false, false, false, false, false, false, false] rfl rfl (by kernel_rfl) (fun _ _ _ h => h) (Or.inl ⟨by rfl, ?_⟩) ?_ ?_
      rotate_left
      · intro w'
        go_simp
        with_reducible rfl
      rotate_left
      · simp only [Act.put, List.setIfInBounds_toArray, List.set_cons_zero, List.set_cons_succ, i64_w, i32_w]
        rfl
      refine pure_ (i := 9) (N := some 28) (v := ?_) (a' := ?_) #[true, true, true, true, true, true, true, true, true, true, false, false, false, false, false, false, false, false, false, false] rfl rfl (by kernel_rfl) (fun _ _ _ h => h) (Or.inl ⟨by rfl, ?_⟩) ?_ ?_
      rotate_left
      · intro w'
        go_simp
        with_reducible rfl
      rotate_left
      · simp only [Act.put, List.setIfInBounds_toArray, List.set_cons_zero, List.set_cons_succ, i64_w, i32_w]
        rfl
      refine pure_ (i := 12) (N := some 31) (v := ?_) (a' := ?_) #[true, true, true, true, true, true, true, true, true, true, false, false, true, false, false, false, false, false, false, false] rfl rfl (by kernel_rfl) (fun _ _ _ h => h) (Or.inl ⟨by rfl, ?_⟩) ?_ ?_
      rotate_left
      · intro w'
        go_simp
        with_reducible rfl
      rotate_left
      · simp only [Act.put, List.setIfInBounds_toArray, List.set_cons_zero, List.set_cons_succ, i64_w, i32_w]
        rfl
      refine pure_ (i := 13) (N := some 32) (v := ?_) (a' := ?_) #[true, true, true, true, true, true, true, true, true, true, false, false, true, true, false, false, false, false, false, false] rfl rfl (by kernel_rfl) (fun _ _ _ h => h) (Or.inl ⟨by rfl, ?_⟩) ?_ ?_
      rotate_left
      · intro w'
        go_simp
        with_reducible rfl
      rotate_left
      · simp only [Act.put, List.setIfInBounds_toArray, List.set_cons_zero, List.set_cons_succ, i64_w, i32_w]
        rfl
      refine pure_ (i := 14) (N := some 33) (v := ?_) (a' := ?_) #[true, true, true, true, true, true, true, true, true, true, false, false, true, true, true, false, false, false, false, false] rfl rfl (by kernel_rfl) (fun _ _ _ h => h) (Or.inl ⟨by rfl, ?_⟩) ?_ ?_
      rotate_left
      · intro w'
        go_simp
        with_reducible rfl
      rotate_left
      · simp only [Act.put, List.setIfInBounds_toArray, List.set_cons_zero, List.set_cons_succ, i64_w, i32_w]
        rfl
      refine pure_ (i := 15) (N := some 34) (v := ?_) (a' := ?_) #[true, true, true, true, true, true, true, true, true, true, false, false, true, true, true, true, false, false, false, false] rfl rfl (by kernel_rfl) (fun _ _ _ h => h) (Or.inl ⟨by rfl, ?_⟩) ?_ ?_
      rotate_left
      · intro w'
        go_simp
        with_reducible rfl
      rotate_left
      · simp only [Act.put, List.setIfInBounds_toArray, List.set_cons_zero, List.set_cons_succ, i64_w, i32_w]
        rfl
      refine take_ (i := 10) (N := some 29) (v := ?_) (a' := ?_) #[true, true, true, true, true, true, true, true, true, true, true, false, true, true, true, true, false, false, false, false] rfl rfl (by kernel_rfl) (fun _ _ _ h => h) (Or.inl ⟨by rfl, ?_⟩) hHeld ?_ ?_
      rotate_left
      · rintro w' ⟨s0, s1, s2, s3, s4, s5, s6, s7⟩
        go_simp
        with_reducible rfl
      rotate_left
      · simp only [Act.put, List.setIfInBounds_toArray, List.set_cons_zero, List.set_cons_succ, i64_w, i32_w]
        rfl
      refine take_ (i := 16) (N := some 35) (v := ?_) (a' := ?_) #[true, true, true, true, true, true, true, true, true, true, true, false, true, true, true, true, true, false, false, false] rfl rfl (by kernel_rfl) (fun _ _ _ h => h) (Or.inl ⟨by rfl, ?_⟩) hHeld ?_ ?_
      rotate_left
      · rintro w' ⟨s0, s1, s2, s3, s4, s5, s6, s7⟩
        go_simp
        with_reducible rfl
      rotate_left
      · simp only [Act.put, List.setIfInBounds_toArray, List.set_cons_zero, List.set_cons_succ, i64_w, i32_w]
        rfl
      refine one_ (i := 11) (N := some 30) #[true, true, true, true, true, true, true, true, true, true, true, true, true, true, true, true, true, false, false, false] rfl rfl (by kernel_rfl) (by decide) (fun K hK => ?_)
      refine goes_ Try.func17 (by kernel_rfl) rfl #[.agg #[.slice A1 ns a1, .slice A2 nd a2, .slice A3 nx a3]] (by rfl) rfl rfl (by simp only [List.map_toArray, List.map_cons, List.map_nil]; rfl) ?_
      with_reducible refine (HPL.out _ HBD.out).mono ?_
      rintro e w2 ⟨Bp, bp, rfl, hP, hb2⟩
      refine ⟨_, rfl, ?_⟩
      have HD2 := Hd.mk (below_step HBD.out hb2)
      have HP := Hd.mk hP
      have hbx := HD2.out
      clear hb2 hP
      refine hK.out _ _ ⟨pw_cell_below hbx c0, pw_cell_below hbx c1', pw_cell_below hbx c2', pw_cell_below hbx c3', pw_cell_below hbx hp0, pw_cell_below hbx hp1, pw_cell_below hbx hp2, pw_cell_below hbx hp3⟩ (fun hHeld => ?_)
      clear hK K
      refine norm_ (a' := ?_) ?_ ?_
      rotate_left
      · show Act.put _ (some 30) _ = _
        simp only [Act.put, List.setIfInBounds_toArray, List.set_cons_zero, List.set_cons_succ, i64_w, i32_w]
        rfl
      refine one_ (i := 17) (N := some 36) #[true, true, true, true, true, true, true, true, true, true, true, true, true, true, true, true, true, true, false, false] rfl rfl (by kernel_rfl) (by decide) (fun K hK => ?_)
      refine goes_ Try.func16 (by kernel_rfl) rfl #[.agg #[.slice Bp ns bp, .slice A2 nd a2, .slice A3 nx a3], .agg #[.slice B1 ns b1, .slice B2 nd b2, .slice B3 nx b3]] (by rfl) rfl rfl (by simp only [List.map_toArray, List.map_cons, List.map_nil]; rfl) ?_
      with_reducible refine (same17_c ⟨HP.out.1, Kd.C_below HE.out.2.2.1 HD2.out, Kd.C_below HE.out.2.2.2 HD2.out, HP.out.2⟩ (HE.out.2.1.below HD2.out) HQ.out.2).mono ?_
      rintro e w3 ⟨rfl, hb3⟩
      refine ⟨_, rfl, ?_⟩
      have HD3 := Hd.mk (below_step HD2.out hb3)
      have hbx3 := HD3.out
      clear hb3
      refine hK.out _ _ ⟨pw_cell_below hbx3 c0, pw_cell_below hbx3 c1', pw_cell_below hbx3 c2', pw_cell_below hbx3 c3', pw_cell_below hbx3 hp0, pw_cell_below hbx3 hp1, pw_cell_below hbx3 hp2, pw_cell_below hbx3 hp3⟩ (fun hHeld => ?_)
      clear hK K
      refine norm_ (a' := ?_) ?_ ?_
      rotate_left
      · show Act.put _ (some 36) _ = _
        simp only [Act.put, List.setIfInBounds_toArray, List.set_cons_zero, List.set_cons_succ, i64_w, i32_w]
        rfl
      refine pure_ (i := 18) (N := some 37) (v := ?_) (a' := ?_) #[true, true, true, true, true, true, true, true, true, true, true, true, true, true, true, true, true, true, true, false] rfl rfl (by kernel_rfl) (fun _ _ _ h => h) (Or.inl ⟨by rfl, ?_⟩) ?_ ?_
      rotate_left
      · intro w'
        go_simp
        with_reducible rfl
      rotate_left
      · simp only [Act.put, List.setIfInBounds_toArray, List.set_cons_zero, List.set_cons_succ, i64_w, i32_w]
        rfl
      refine pure_ (i := 19) (N := some 38) (v := ?_) (a' := ?_) #[true, true, true, true, true, true, true, true, true, true, true, true, true, true, true, true, true, true, true, true] rfl rfl (by kernel_rfl) (fun _ _ _ h => h) (Or.inl ⟨by rfl, ?_⟩) ?_ ?_
      rotate_left
      · intro w'
        go_simp
        with_reducible rfl
      rotate_left
      · simp only [Act.put, List.setIfInBounds_toArray, List.set_cons_zero, List.set_cons_succ, i64_w, i32_w]
        rfl
      refine done_ (by kernel_rfl) ?_
      clear hHeld c0 c1' c2' c3' hp0 hp1 hp2 hp3
      go_wp2
      go_roundg g1
      case measure => omega
      case rel => exact ⟨i + 1, by go_num, by omega, ⟨below_step HB1.out HD3.out⟩⟩
end Go.Proofs.Ytinlfoblpgpikaa
