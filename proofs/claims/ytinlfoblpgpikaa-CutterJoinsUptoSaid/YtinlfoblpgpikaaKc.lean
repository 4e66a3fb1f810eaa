/- cutter: Check, by contract, and plainly. -/
import Derived.Test.YtinlfoblpgpikaaBs
import Derived.ScopeJumps
import Derived.WalkMore
namespace Go.Proofs.Ytinlfoblpgpikaa
open Go.RowKit Go.Shelf Go.Proofs.YtinlfoblpgpikaaW.PrintWords Go.Proofs.YtinlfoblpgpikaaW.PrintLast Go.Proofs.YtinlfoblpgpikaaW.PrintMore Go.Proofs.Ytinlfoblpgpikaa.Pr
set_option linter.unusedVariables false
set_option linter.unusedSimpArgs false
/-- The steps, one by one: what they add and copy, where all may be. -/
def wk (old size : Int) : List S82 → Int → Int → Int → Option (Int × Int)
  | [], a, c, _ => some (a, c)
  | s :: l, a, c, p => if s.f0 < 0 ∨ s.f1 < 0 ∨ (s.f0 = 0 ∧ s.f1 = 0) ∨ size < s.f0 ∨ size < s.f1 then none
    else if ¬ (0 ≤ p + s.f0 ∧ p + s.f0 ≤ old) ∨ size < a + s.f0 + (c + s.f1) ∨ 16777216 < s.f2 ∨ s.f2 < -16777216 then none
    else if ¬ (0 ≤ p + s.f0 + s.f2 ∧ p + s.f0 + s.f2 ≤ old) then none else wk old size l (a + s.f0) (c + s.f1) (p + s.f0 + s.f2)
def lastS (st : List S82) : Int := (rd_T82 st ((st.length : Int) - 1)).f2
/-- What Check answers. -/
def pchk (pos : Int) (st : List S82) (d x : List Int) (old size : Int) : Int :=
  if size < 1 ∨ 65536 < size ∨ old < 0 ∨ 16777216 < old ∨ ¬ (0 ≤ pos ∧ pos ≤ old) then 171 else
    match wk old size st 0 0 pos with
    | none => 171
    | some (a, c) => if st = [] ∨ lastS st ≠ 0 then 171 else if a ≠ d.length ∨ c ≠ x.length ∨ a + c ≠ size then 171 else 0
theorem place_c (p old : Int) (w : World) : Calls Try.prog 47 #[.int .i64 p, .int .i64 old] w fun e w' => e = .returned (.bool (decide (0 ≤ p ∧ p ≤ old))) ∧ w' = w := by
  by_cases h0 : 0 ≤ p
  · by_cases h1 : p ≤ old
    · have e0 : decide (0 ≤ p) = true := decide_eq_true h0
      have e1 : decide (p ≤ old) = true := decide_eq_true h1
      have e2 : decide (0 ≤ p ∧ p ≤ old) = true := decide_eq_true ⟨h0, h1⟩
      rw [e2]
      clear h0 h1 e2
      go_enter Try.func47, Try.ntmps47
      go_wp2
      go_ret
      exact ⟨by simp, rfl⟩
    · have e0 : decide (0 ≤ p) = true := decide_eq_true h0
      have e1 : decide (p ≤ old) = false := decide_eq_false h1
      have e2 : decide (0 ≤ p ∧ p ≤ old) = false := decide_eq_false (fun h => h1 h.2)
      rw [e2]
      clear h0 h1 e2
      go_enter Try.func47, Try.ntmps47
      go_wp2
      go_ret
      exact ⟨by simp, rfl⟩
  · have e0 : decide (0 ≤ p) = false := decide_eq_false h0
    have e2 : decide (0 ≤ p ∧ p ≤ old) = false := decide_eq_false (fun h => h0 h.1)
    rw [e2]
    clear h0 e2
    go_enter Try.func47, Try.ntmps47
    go_wp2
    go_ret
    exact ⟨by simp, rfl⟩
set_option maxRecDepth 100000 in
set_option maxHeartbeats 8000000 in
theorem cck_c {A0 : Option Addr} {c0 : Nat} {st : List S82} {A1 : Option Addr} {c1 : Nat} {d : List Int} {A2 : Option Addr} {c2 : Nat} {x : List Int} {w : World} (hE : EdC w A0 c0 st A1 c1 d A2 c2 x) (pos old size : Int) :
    Calls Try.prog 19 #[.agg #[.int .i64 pos, .slice A0 st.length c0, .slice A1 d.length c1, .slice A2 x.length c2], .int .i64 old, .int .i64 size] w fun e w' => e = .returned (.int .i64 (pchk pos st d x old size)) ∧ Below w.heap.size w w' := by
  have hb0 : Below w.heap.size w (w.alloc (.cells #[.int .i64 pos, .slice A0 st.length c0, .slice A1 d.length c1, .slice A2 x.length c2] 43)) := (Below.refl _ _).alloc (Nat.le_refl _) _
  have HE := Hd.mk (hE.below hb0)
  have HB := Hd.mk hb0
  have HY := Hd.mk (blk_new w (.cells #[.int .i64 pos, .slice A0 st.length c0, .slice A1 d.length c1, .slice A2 x.length c2] 43))
  obtain ⟨r, hr⟩ : ∃ r, pchk pos st d x old size = r := ⟨_, rfl⟩
  rw [hr]
  have HR := Hd.mk hr
  clear hb0 hE hr
  go_enter Try.func19, Try.ntmps19
  go_wp2
  obtain ⟨w0, hw0⟩ : ∃ v, w.alloc (.cells #[.int .i64 pos, .slice A0 st.length c0, .slice A1 d.length c1, .slice A2 x.length c2] 43) = v := ⟨_, rfl⟩
  rw [hw0] at HE HB HY ⊢
  clear hw0
  refine wp_scope_jumps 0 (fun a W => a.tmps.size = 153 ∧ a.defers = [] ∧ r = 171 ∧ Below w.heap.size w W) (fun _ _ => 0) rfl ?first ?pass
  case pass =>
    rintro ⟨tmps, defers⟩ W ⟨hs, hd, hr, hb⟩
    simp only at hs hd
    subst hd
    subst hr
    have HBB := Hd.mk hb
    clear hb
    go_wp2
    refine ⟨rfl, .int .i64 171, ?_, rfl, HBB.out⟩
    simp [results, Try.results19, go_sem, hs]
  case first =>
    have cHY0 := blk_cell HY.out 0
    have cHY1 := blk_cell HY.out 1
    have cHY2 := blk_cell HY.out 2
    have cHY3 := blk_cell HY.out 3
    simp at cHY0 cHY1 cHY2 cHY3
    go_upto_region 1 with fail
    clear cHY0 cHY1 cHY2 cHY3
    replace HB := Hd.mk (below_step HB.out (Below.drew' w0))
    replace HE := Hd.mk (HE.out.below (Below.drew' w0))
    replace HY := Hd.mk (blk_below HY.out (Below.drew' w0))
    have cHY0 := blk_cell HY.out 0
    have cHY1 := blk_cell HY.out 1
    have cHY2 := blk_cell HY.out 2
    have cHY3 := blk_cell HY.out 3
    simp at cHY0 cHY1 cHY2 cHY3
    refine start_ (n := 5) (S := fun w' => w'.cell? ⟨w.heap.size, 0, none⟩ = some (.int .i64 pos) ∧ w'.cell? ⟨w.heap.size, 1, none⟩ = some (.slice A0 st.length c0) ∧ w'.cell? ⟨w.heap.size, 2, none⟩ = some (.slice A1 d.length c1) ∧ w'.cell? ⟨w.heap.size, 3, none⟩ = some (.slice A2 x.length c2)) (ds := []) #[false, false, false, false, false] (by kernel_rfl) rfl rfl ⟨cHY0, cHY1, cHY2, cHY3⟩ (fun hHeld => ?_)
    refine pure_ (i := 0) (N := some 13) (v := ?_) (a' := ?_) #[true, false, false, false, false] rfl rfl (by kernel_rfl) (fun _ _ _ h => h) (Or.inl ⟨by rfl, ?_⟩) ?_ ?_
    rotate_left
    · intro w'
      go_simp
      with_reducible rfl
    rotate_left
    · simp only [Act.put, List.setIfInBounds_toArray, List.set_cons_zero, List.set_cons_succ, i64_w, i32_w]
      rfl
    refine pure_ (i := 2) (N := some 7) (v := ?_) (a' := ?_) #[true, false, true, false, false] rfl rfl (by kernel_rfl) (fun _ _ _ h => h) (Or.inl ⟨by rfl, ?_⟩) ?_ ?_
    rotate_left
    · intro w'
      go_simp
      with_reducible rfl
    rotate_left
    · simp only [Act.put, List.setIfInBounds_toArray, List.set_cons_zero, List.set_cons_succ, i64_w, i32_w]
      rfl
    refine pure_ (i := 3) (N := some 8) (v := ?_) (a' := ?_) #[true, false, true, true, false] rfl rfl (by kernel_rfl) (fun _ _ _ h => h) (Or.inl ⟨by rfl, ?_⟩) ?_ ?_
    rotate_left
    · intro w'
      go_simp
      with_reducible rfl
    rotate_left
    · simp only [Act.put, List.setIfInBounds_toArray, List.set_cons_zero, List.set_cons_succ, i64_w, i32_w]
      rfl
    refine take_ (i := 1) (N := some 14) (v := ?_) (a' := ?_) #[true, true, true, true, false] rfl rfl (by kernel_rfl) (fun _ _ _ h => h) (Or.inl ⟨by rfl, ?_⟩) hHeld ?_ ?_
    rotate_left
    · rintro w' ⟨s0, s1, s2, s3⟩
      go_simp
      with_reducible rfl
    rotate_left
    · simp only [Act.put, List.setIfInBounds_toArray, List.set_cons_zero, List.set_cons_succ, i64_w, i32_w]
      rfl
    refine pure_ (i := 4) (N := some 9) (v := ?_) (a' := ?_) #[true, true, true, true, true] rfl rfl (by kernel_rfl) (fun _ _ _ h => h) (Or.inl ⟨by rfl, ?_⟩) ?_ ?_
    rotate_left
    · intro w'
      go_simp
      with_reducible rfl
    rotate_left
    · simp only [Act.put, List.setIfInBounds_toArray, List.set_cons_zero, List.set_cons_succ, i64_w, i32_w]
      rfl
    refine done_ (by kernel_rfl) ?_
    clear hHeld
    obtain ⟨w1, hw1⟩ : ∃ v, w0.drew = v := ⟨_, rfl⟩
    clear cHY0 cHY1 cHY2 cHY3
    rw [hw1] at HE HB HY ⊢
    clear hw1
    have cHY0 := blk_cell HY.out 0
    have cHY1 := blk_cell HY.out 1
    have cHY2 := blk_cell HY.out 2
    have cHY3 := blk_cell HY.out 3
    simp at cHY0 cHY1 cHY2 cHY3
    have HRp := HR.out
    unfold pchk at HRp
    by_cases k1 : size < 1
    · rw [if_pos (.inl k1)] at HRp
      have HR1 := Hd.mk HRp
      clear HRp
      have HZ := Hd.mk (show r = 171 from HR1.out.symm)
      go_wp2
      exact wp_goto ⟨rfl, rfl, rfl, HZ.out, HB.out⟩
    by_cases k2 : 65536 < size
    · rw [if_pos (.inr (.inl k2))] at HRp
      have HR1 := Hd.mk HRp
      clear HRp
      have HZ := Hd.mk (show r = 171 from HR1.out.symm)
      go_wp2
      exact wp_goto ⟨rfl, rfl, rfl, HZ.out, HB.out⟩
    by_cases k3 : old < 0
    · rw [if_pos (.inr (.inr (.inl k3)))] at HRp
      have HR1 := Hd.mk HRp
      clear HRp
      have HZ := Hd.mk (show r = 171 from HR1.out.symm)
      go_wp2
      exact wp_goto ⟨rfl, rfl, rfl, HZ.out, HB.out⟩
    by_cases k4 : 16777216 < old
    · rw [if_pos (.inr (.inr (.inr (.inl k4))))] at HRp
      have HR1 := Hd.mk HRp
      clear HRp
      have HZ := Hd.mk (show r = 171 from HR1.out.symm)
      go_wp2
      exact wp_goto ⟨rfl, rfl, rfl, HZ.out, HB.out⟩
    by_cases k5 : 0 ≤ pos ∧ pos ≤ old
    rotate_left
    · rw [if_pos (.inr (.inr (.inr (.inr k5))))] at HRp
      have HR1 := Hd.mk HRp
      have HPL := Hd.mk (place_c pos old w1)
      rw [decide_eq_false k5] at HPL
      clear HRp k5
      go_wp2_with fail
      refine HPL.out.mono ?_
      rintro e w2 ⟨rfl, rfl⟩
      clear HPL
      have HZ := Hd.mk (show r = 171 from HR1.out.symm)
      go_wp2
      exact wp_goto ⟨rfl, rfl, rfl, HZ.out, HB.out⟩
    rw [if_neg (by omega)] at HRp
    have HNO : Hd (wk old size st 0 0 pos = none → r = 171) := ⟨fun h => by rw [h] at HRp; exact HRp.symm⟩
    have HSO : Hd (∀ a c, wk old size st 0 0 pos = some (a, c) → (if st = [] ∨ lastS st ≠ 0 then 171 else if a ≠ d.length ∨ c ≠ x.length ∨ a + c ≠ size then 171 else 0) = r) := ⟨fun a c h => by rw [h] at HRp; exact HRp⟩
    have HPL := Hd.mk (place_c pos old w1)
    rw [decide_eq_true k5] at HPL
    obtain ⟨k50, k51⟩ := k5
    clear HRp
    go_wp2_with fail
    refine HPL.out.mono ?_
    rintro e w2 ⟨rfl, rfl⟩
    clear HPL
    go_wp2
    go_loopg [7, 8, 9, 39] st.length (fun k v7 v8 v9 v39 W => ∃ (i : Nat) (a c p : Int), v7 = .int .i64 a ∧ v8 = .int .i64 c ∧ v9 = .int .i64 p ∧ v39 = .int .i64 i ∧ i + k = st.length ∧ 0 ≤ a ∧ 0 ≤ c ∧ a + c ≤ size ∧ 0 ≤ p ∧ p ≤ old ∧ Hd (wk old size st 0 0 pos = wk old size (st.drop i) a c p) ∧ Hd (Below w2.heap.size w2 W))
    case atStart => exact ⟨0, 0, 0, pos, rfl, rfl, rfl, rfl, by omega, by omega, by omega, by omega, k50, k51, ⟨by rw [List.drop_zero]⟩, ⟨Below.refl _ _⟩⟩
    case round =>
      clear k50 k51
      obtain ⟨i, a, c, p, rfl, rfl, rfl, rfl, hk, ha0, hc0, hac, hp0, hp1, HI, HBW⟩ := hrel
      have hbw := HBW.out
      clear cHY0 cHY1 cHY2 cHY3
      replace HB := Hd.mk (below_step HB.out hbw)
      replace HE := Hd.mk (HE.out.below hbw)
      replace HY := Hd.mk (blk_below HY.out hbw)
      have cHY0 := blk_cell HY.out 0
      have cHY1 := blk_cell HY.out 1
      have cHY2 := blk_cell HY.out 2
      have cHY3 := blk_cell HY.out 3
      simp at cHY0 cHY1 cHY2 cHY3
      clear hbw
      rcases gk with _ | gk
      · have hlt : decide ((i : Int) < (st.length : Int)) = false := decide_eq_false (by omega)
        obtain rfl : i = st.length := by omega
        have hso := HSO.out a c (HI.out.trans (by rw [List.drop_length]; rfl))
        by_cases e1 : st.length = 0
        · have hse : st = [] := List.eq_nil_of_length_eq_zero e1
          rw [if_pos (.inl hse)] at hso
          have e1' : ((st.length : Int) == 0) = true := by simp [e1]
          have HZ0 := Hd.mk hso
          clear hso e1 hse hlt
          have HZ := Hd.mk (show r = 171 from HZ0.out.symm)
          go_wp2
          exact wp_goto ⟨rfl, rfl, rfl, HZ.out, HB.out⟩
        · obtain ⟨m, hm⟩ : ∃ m, st.length = m + 1 := ⟨st.length - 1, by omega⟩
          have hml : m < st.length := by omega
          have e1' : ((st.length : Int) == 0) = false := by rw [beq_eq_false_iff_ne]; omega
          have hfit : st.length ≤ 9223372036854775807 := HE.out.s.2.1
          have hsub : (st.length : Int) - 1 = (m : Int) := by omega
          have hng : decide ((0 : Int) ≤ (m : Int)) = true := decide_eq_true (by omega)
          have hgl : decide ((m : Int) < (st.length : Int)) = true := decide_eq_true (by omega)
          have hls : lastS st = (rd_T82 st (m : Int)).f2 := by unfold lastS; rw [hsub]
          obtain ⟨ad, e, s0, s1, s2⟩ := at_T82 HE.out.s (m : Int) (by omega) (by omega)
          subst e
          rw [Int.toNat_natCast] at s0 s1 s2
          have hne0 : ¬ st = [] := fun h => e1 (by rw [h]; rfl)
          rw [hls] at hso
          obtain ⟨z, hz⟩ : ∃ z, (rd_T82 st (m : Int)).f2 = z := ⟨_, rfl⟩
          rw [hz] at s2 hso
          by_cases e2 : z = 0
          rotate_left
          · rw [if_pos (.inr e2)] at hso
            have e2' : (z != 0) = true := by simpa using e2
            have HZ0 := Hd.mk hso
            have HE2 := Hd.mk e2
            clear hso e2 hz hls hne0 hlt s0 s1 e1
            clear cHY0 cHY1 cHY2 cHY3
            have cHY0 := blk_cell HY.out 0
            have cHY1 := blk_cell HY.out 1
            have cHY2 := blk_cell HY.out 2
            have cHY3 := blk_cell HY.out 3
            simp at cHY0 cHY1 cHY2 cHY3
            have HZ := Hd.mk (show r = 171 from HZ0.out.symm)
            go_wp2
            exact wp_goto ⟨rfl, rfl, rfl, HZ.out, HB.out⟩
          subst e2
          rw [if_neg (fun h => h.elim hne0 (fun h => h rfl))] at hso
          clear cHY0 cHY1 cHY2 cHY3
          have cHY0 := blk_cell HY.out 0
          have cHY1 := blk_cell HY.out 1
          have cHY2 := blk_cell HY.out 2
          have cHY3 := blk_cell HY.out 3
          simp at cHY0 cHY1 cHY2 cHY3
          clear hz hls hne0 hlt s0 s1 e1
          by_cases e3 : a = (d.length : Int)
          rotate_left
          · rw [if_pos (.inl e3)] at hso
            have e3' : (a != (d.length : Int)) = true := by simpa using e3
            have HZ0 := Hd.mk hso
            have HE3 := Hd.mk e3
            clear hso e3
            have HZ := Hd.mk (show r = 171 from HZ0.out.symm)
            go_wp2
            exact wp_goto ⟨rfl, rfl, rfl, HZ.out, HB.out⟩
          by_cases e4 : c = (x.length : Int)
          rotate_left
          · rw [if_pos (.inr (.inl e4))] at hso
            have e3' : (a != (d.length : Int)) = false := by simpa using e3
            have e4' : (c != (x.length : Int)) = true := by simpa using e4
            have HZ0 := Hd.mk hso
            have HE3 := Hd.mk (And.intro e3 e4)
            clear hso e3 e4
            have HZ := Hd.mk (show r = 171 from HZ0.out.symm)
            go_wp2
            exact wp_goto ⟨rfl, rfl, rfl, HZ.out, HB.out⟩
          have e3' : (a != (d.length : Int)) = false := by simpa using e3
          have e4' : (c != (x.length : Int)) = false := by simpa using e4
          by_cases e5 : a + c = size
          rotate_left
          · rw [if_pos (.inr (.inr e5))] at hso
            have e5' : (a + c != size) = true := by simpa using e5
            have HZ0 := Hd.mk hso
            have HE3 := Hd.mk (And.intro e3 (And.intro e4 e5))
            clear hso e3 e4 e5
            have HZ := Hd.mk (show r = 171 from HZ0.out.symm)
            go_wp2
            exact wp_goto ⟨rfl, rfl, rfl, HZ.out, HB.out⟩
          rw [if_neg (by omega)] at hso
          have e5' : (a + c != size) = false := by simpa using e5
          have HZ0 := Hd.mk hso
          have HE3 := Hd.mk (And.intro e3 (And.intro e4 e5))
          clear hso e3 e4 e5
          go_wp2
          refine ⟨rfl, .int .i64 0, ?_, by rw [HZ0.out], HB.out⟩
          simp [results, Try.results19, go_sem]
      · have hlt : decide ((i : Int) < (st.length : Int)) = true := decide_eq_true (by omega)
        have hng : decide ((0 : Int) ≤ (i : Int)) = true := decide_eq_true (by omega)
        have hil : i < st.length := by omega
        obtain ⟨ad, e, s0, s1, s2⟩ := at_T82 HE.out.s (i : Int) (by omega) (by omega)
        subst e
        clear cHY0 cHY1 cHY2 cHY3
        rw [Int.toNat_natCast] at s0 s1 s2
        have hdr := drop_rd st i hil
        obtain ⟨⟨f0, f1, f2⟩, hg⟩ : ∃ s, rd_T82 st (i : Int) = s := ⟨_, rfl⟩
        rw [hg] at s0 s1 s2 hdr
        simp only at s0 s1 s2
        have HBX := Hd.mk (Below.alloc HB.out HB.out.size (.cells #[.int .i64 f0, .int .i64 f1, .int .i64 f2] 82))
        have HBW2 := Hd.mk (Below.alloc HBW.out HBW.out.size (.cells #[.int .i64 f0, .int .i64 f1, .int .i64 f2] 82))
        have hlY := blk_lt HY.out
        have hfit : st.length ≤ 9223372036854775807 := HE.out.s.2.1
        clear hg
        have cHY0 := blk_cell HY.out 0
        have cHY1 := blk_cell HY.out 1
        have cHY2 := blk_cell HY.out 2
        have cHY3 := blk_cell HY.out 3
        simp at cHY0 cHY1 cHY2 cHY3
        go_upto_region 6 with fail
        clear cHY0 cHY1 cHY2 cHY3
        clear s0 s1 s2
        have HS := Hd.mk (blk_new wr (.cells #[.int .i64 f0, .int .i64 f1, .int .i64 f2] 82))
        obtain ⟨wx, hwx⟩ : ∃ v, wr.alloc (.cells #[.int .i64 f0, .int .i64 f1, .int .i64 f2] 82) = v := ⟨_, rfl⟩
        obtain ⟨bx, hbx⟩ : ∃ b, wr.heap.size = b := ⟨_, rfl⟩
        rw [hwx] at HBX HBW2 HS ⊢
        rw [hbx] at HS ⊢
        clear hwx hbx
        have cx0 := blk_cell HS.out 0
        have cx1 := blk_cell HS.out 1
        have cx2 := blk_cell HS.out 2
        simp at cx0 cx1 cx2
        by_cases q0 : f0 < 0
        · skip
          have HZ := Hd.mk (HNO.out (HI.out.trans (by rw [hdr]; unfold wk; rw [if_pos (.inl q0)])))
          clear hdr
          go_wp2
          exact wp_goto ⟨rfl, rfl, rfl, HZ.out, HBX.out⟩
        by_cases q1 : f1 < 0
        · skip
          have HZ := Hd.mk (HNO.out (HI.out.trans (by rw [hdr]; unfold wk; rw [if_pos (.inr (.inl q1))])))
          clear hdr
          go_wp2
          exact wp_goto ⟨rfl, rfl, rfl, HZ.out, HBX.out⟩
        by_cases q2 : f0 = 0 ∧ f1 = 0
        · obtain ⟨rfl, rfl⟩ := q2
          have HZ := Hd.mk (HNO.out (HI.out.trans (by rw [hdr]; unfold wk; rw [if_pos (.inr (.inr (.inl ⟨rfl, rfl⟩)))])))
          clear hdr
          go_wp2
          exact wp_goto ⟨rfl, rfl, rfl, HZ.out, HBX.out⟩
        by_cases q3 : size < f0
        · have q3' : (f0 == 0) = false := by rw [beq_eq_false_iff_ne]; omega
          clear q2
          have HZ := Hd.mk (HNO.out (HI.out.trans (by rw [hdr]; unfold wk; rw [if_pos (.inr (.inr (.inr (.inl q3))))])))
          clear hdr
          go_wp2
          exact wp_goto ⟨rfl, rfl, rfl, HZ.out, HBX.out⟩
        by_cases q4 : size < f1
        · have q4' : (f1 == 0) = false := by rw [beq_eq_false_iff_ne]; omega
          clear q2
          by_cases q5 : f0 = 0
          · subst q5
            have HZ := Hd.mk (HNO.out (HI.out.trans (by rw [hdr]; unfold wk; rw [if_pos (.inr (.inr (.inr (.inr q4))))])))
            clear hdr
            go_wp2
            exact wp_goto ⟨rfl, rfl, rfl, HZ.out, HBX.out⟩
          · have q5' : (f0 == 0) = false := by rw [beq_eq_false_iff_ne]; exact q5
            have HQ5 := Hd.mk q5
            clear q5
            have HZ := Hd.mk (HNO.out (HI.out.trans (by rw [hdr]; unfold wk; rw [if_pos (.inr (.inr (.inr (.inr q4))))])))
            clear hdr
            go_wp2
            exact wp_goto ⟨rfl, rfl, rfl, HZ.out, HBX.out⟩
        have HDR := Hd.mk (show wk old size (st.drop i) a c p = if ¬ (0 ≤ p + f0 ∧ p + f0 ≤ old) ∨ size < a + f0 + (c + f1) ∨ 16777216 < f2 ∨ f2 < -16777216 then none
            else if ¬ (0 ≤ p + f0 + f2 ∧ p + f0 + f2 ≤ old) then none else wk old size (st.drop (i + 1)) (a + f0) (c + f1) (p + f0 + f2) by
          rw [hdr]
          conv => lhs; unfold wk
          rw [if_neg (by simp only; omega)])
        have HQ2 := Hd.mk q2
        clear hdr q2
        go_cut [72] (fun v72 W => v72 = .bool false ∧ Hd (W = wx))
        case first =>
          by_cases q5 : f0 = 0
          · have q6 : (f1 == 0) = false := by rw [beq_eq_false_iff_ne]; intro h; exact HQ2.out ⟨q5, h⟩
            subst q5
            go_wp2_with fail
            go_meet
            case rel => exact ⟨rfl, ⟨rfl⟩⟩
          · have q5' : (f0 == 0) = false := by rw [beq_eq_false_iff_ne]; exact q5
            have HQ5 := Hd.mk q5
            clear q5
            go_wp2_with fail
            go_meet
            case rel => exact ⟨rfl, ⟨rfl⟩⟩
        case rest =>
          obtain ⟨rfl, HW⟩ := hcut
          have hw := HW.out
          subst hw
          clear HW
          have HPL := Hd.mk (place_c (p + f0) old wc)
          by_cases r1 : 0 ≤ p + f0 ∧ p + f0 ≤ old
          rotate_left
          · rw [decide_eq_false r1] at HPL
            have HZ := Hd.mk (show r = 171 from HNO.out (HI.out.trans (HDR.out.trans (if_pos (.inl r1)))))
            have HR1 := Hd.mk r1
            clear r1 HDR
            go_wp2_with fail
            refine HPL.out.mono ?_
            rintro e w5 ⟨rfl, rfl⟩
            clear HPL
            go_wp2
            exact wp_goto ⟨rfl, rfl, rfl, HZ.out, HBX.out⟩
          rw [decide_eq_true r1] at HPL
          obtain ⟨r10, r11⟩ := r1
          go_wp2_with fail
          refine HPL.out.mono ?_
          rintro e w5 ⟨rfl, rfl⟩
          clear HPL
          by_cases r2 : size < a + f0 + (c + f1)
          · have HZ := Hd.mk (show r = 171 from HNO.out (HI.out.trans (HDR.out.trans (if_pos (.inr (.inl r2))))))
            clear HDR
            go_wp2
            exact wp_goto ⟨rfl, rfl, rfl, HZ.out, HBX.out⟩
          by_cases r3 : 16777216 < f2
          · have HZ := Hd.mk (show r = 171 from HNO.out (HI.out.trans (HDR.out.trans (if_pos (.inr (.inr (.inl r3)))))))
            clear HDR
            go_wp2
            exact wp_goto ⟨rfl, rfl, rfl, HZ.out, HBX.out⟩
          by_cases r4 : f2 < -16777216
          · have HZ := Hd.mk (show r = 171 from HNO.out (HI.out.trans (HDR.out.trans (if_pos (.inr (.inr (.inr r4)))))))
            clear HDR
            go_wp2
            exact wp_goto ⟨rfl, rfl, rfl, HZ.out, HBX.out⟩
          have hdr := HDR.out
          rw [if_neg (by omega)] at hdr
          have HPL := Hd.mk (place_c (p + f0 + f2) old w5)
          by_cases r5 : 0 ≤ p + f0 + f2 ∧ p + f0 + f2 ≤ old
          rotate_left
          · rw [decide_eq_false r5] at HPL
            rw [if_pos r5] at hdr
            have HZ := Hd.mk (show r = 171 from HNO.out (HI.out.trans hdr))
            have HR1 := Hd.mk r5
            clear r5 HDR hdr
            go_wp2_with fail
            refine HPL.out.mono ?_
            rintro e w6 ⟨rfl, rfl⟩
            clear HPL
            go_wp2
            exact wp_goto ⟨rfl, rfl, rfl, HZ.out, HBX.out⟩
          rw [if_neg (fun h => h r5)] at hdr
          rw [decide_eq_true r5] at HPL
          obtain ⟨r50, r51⟩ := r5
          have HIN := Hd.mk (HI.out.trans hdr)
          clear HDR hdr
          go_wp2_with fail
          refine HPL.out.mono ?_
          rintro e w6 ⟨rfl, rfl⟩
          clear HPL
          go_wp2
          go_roundg gk
          case measure => omega
          case rel => exact ⟨i + 1, a + f0, c + f1, p + f0 + f2, rfl, rfl, rfl, by go_num, by omega, by omega, by omega, by omega, r50, r51, HIN, HBW2⟩
end Go.Proofs.Ytinlfoblpgpikaa
