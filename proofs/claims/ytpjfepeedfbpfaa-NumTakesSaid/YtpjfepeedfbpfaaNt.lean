/- num: the walk of NumTakes. -/
import Derived.Test.YtpjfepeedfbpfaaRt
import Derived.Test.YtpjfepeedfbpfaaRw
namespace Go.Proofs.Ytpjfepeedfbpfaa
open Go.RowKit Go.Proofs.YtpjfepeedfbpfaaW.PrintWords Go.Proofs.YtpjfepeedfbpfaaW.PrintLast Go.Proofs.YtpjfepeedfbpfaaW.PrintMore
set_option linter.unusedVariables false
set_option linter.unusedSimpArgs false
theorem add_add' (a : Addr) (i j : Nat) : (a.add i).add j = a.add (i + j) := by
  unfold Addr.add
  by_cases hi : i = 0 <;> by_cases hj : j = 0 <;> simp [hi, hj, Nat.add_assoc]
/-- A script that came in. -/
structure Scr (w : World) (A : Option Addr) (n : Nat) : Prop where
  max : n ≤ 9223372036854775807
  at_ : ∀ j, j < n → ∃ ad b r, A = some ad ∧ w.cell? (ad.add (j * 2)) = some (.int .u8 b) ∧ w.cell? (ad.add (j * 2 + 1)) = some (.bool r) ∧ 0 ≤ b ∧ b ≤ 255
theorem Scr.below {w w' : World} {A : Option Addr} {n : Nat} (h : Scr w A n) (hb : Below w.heap.size w w') : Scr w' A n :=
  ⟨h.max, fun j hj => by
    obtain ⟨ad, b, r, e, h1, h2, h3⟩ := h.at_ j hj
    exact ⟨ad, b, r, e, (hb.cell (World.block_lt_of_cell? w _ h1)).trans h1, (hb.cell (World.block_lt_of_cell? w _ h2)).trans h2, h3⟩⟩
theorem Bs.upd {S : Nat → Prop} {w w' : World} {A : Option Addr} {n c : Nat} {xs : List Int} (h : Bs w A n c xs) (hu : Upd S w w') (hA : ∀ ad, A = some ad → ¬ S ad.block) : Bs w' A n c xs := by
  refine ⟨Kd.C_of_reads (enc := Value.int .u8) (d := (0 : Int)) (h1 := fun _ => rfl) ⟨h.len, Kd.C_max h.C, fun hn => ?_⟩, h.hc, h.hr⟩
  obtain ⟨ad, e, _⟩ := at_byte h.C 0 hn
  refine ⟨ad, e, fun j hj => ?_⟩
  obtain ⟨ad', e', hc'⟩ := at_byte h.C j (by have := h.len; omega)
  cases e.symm.trans e'
  have := hu.cell hc' (by
    have hb : (ad.add j).block = ad.block := by unfold Addr.add; split <;> rfl
    rw [hb]; exact hA _ e)
  exact this
structure Tst (B : Nat) (w : World) (xs : List Int) : Prop where
  t : Tkr w B (val xs) xs.length
  o : Tkr w (B + 1) 0 0
  x : ∃ A n c, Xtk w (B + 1 + 1) (.slice A n c) ∧ Bs w A n c xs ∧ ∀ ad, A = some ad → B + 2 < ad.block
  l : xs.length ≤ 9
theorem Tst.below {B : Nat} {w w' : World} {xs : List Int} (h : Tst B w xs) (hb : Below w.heap.size w w') : Tst B w' xs := by
  obtain ⟨A, n, c, x1, x2, x3⟩ := h.x
  exact ⟨blk_below h.t hb, blk_below h.o hb, ⟨A, n, c, blk_below x1 hb, x2.below hb, x3⟩, h.l⟩
theorem Tst.set_t {B : Nat} {w w' : World} {xs ys : List Int} (h : Tst B w xs) (hu : Upd (· = B) w w') (ht : Tkr w' B (val ys) ys.length) : Tkr w' B (val ys) ys.length ∧ Tkr w' (B + 1) 0 0 ∧ ∃ A n c, Xtk w' (B + 1 + 1) (.slice A n c) ∧ Bs w' A n c xs ∧ ∀ ad, A = some ad → B + 2 < ad.block := by
  obtain ⟨A, n, c, x1, x2, x3⟩ := h.x
  exact ⟨ht, hu.blk h.o (by omega), A, n, c, hu.blk x1 (by omega), x2.upd hu (fun ad e => by have := x3 ad e; omega), x3⟩
theorem Tst.set_o {B : Nat} {w w' : World} {xs : List Int} (h : Tst B w xs) (hu : Upd (· = B + 1) w w') (ht : Tkr w' (B + 1) 0 0) : Tst B w' xs := by
  obtain ⟨A, n, c, x1, x2, x3⟩ := h.x
  exact ⟨hu.blk h.t (by omega), ht, ⟨A, n, c, hu.blk x1 (by omega), x2.upd hu (fun ad e => by have := x3 ad e; omega), x3⟩, h.l⟩
theorem take_nil (b : Int) (w : World) :
    Calls Try.prog 24 #[.pointer none, .int .u8 b] w fun e w' => e = .returned (.tuple #[.int .u64 0, .bool false, .int .i64 2]) ∧ w' = w := by
  go_enter Try.func24, Try.ntmps24
  go_wp2
  go_ret3
  exact ⟨rfl, rfl⟩
set_option maxHeartbeats 2000000 in
theorem walk_numTakes (A : Option Addr) (n c : Nat) (w : World) (h : Scr w A n ∧ n ≤ c) :
    Calls Try.prog 5 #[.slice A n c] w fun e w' => e = .returned (.bool true) ∧ Below w.heap.size w w' := by
  obtain ⟨hS, hc⟩ := h
  have hm := hS.max
  have HS := Hd.mk hS
  clear hS
  go_enter Try.func5, Try.ntmps5
  go_wp2_with fail
  go_loopg [23] n (fun k y w'' => ∃ (j : Nat) (xs : List Int), y = .int .i64 j ∧ j + k = n ∧ Hd (Tst w.heap.size w'' xs) ∧ Hd (Below w.heap.size w w''))
  case atStart =>
    refine ⟨0, [], rfl, by omega, ⟨?_, ?_, ⟨none, 0, 0, ?_, ⟨Kd.C_nil _ _, Nat.le_refl _, by simp⟩, fun ad e => by cases e⟩, by simp⟩, ⟨?_⟩⟩
    · exact blk_alloc (blk_alloc (blk_new w _) _) _
    · have := blk_alloc (blk_new (w.alloc (.cells #[.int .u64 0, .int .i64 0] 43)) (.cells #[.int .u64 0, .int .i64 0] 43)) (.cells #[.slice none 0 0] 45)
      rw [World.size_alloc] at this
      exact this
    · have := blk_new ((w.alloc (.cells #[.int .u64 0, .int .i64 0] 43)).alloc (.cells #[.int .u64 0, .int .i64 0] 43)) (.cells #[.slice none 0 0] 45)
      rw [World.size_alloc, World.size_alloc] at this
      exact this
    · exact (((Below.refl _ _).alloc (Nat.le_refl _) _).alloc (by simp) _).alloc (by simp; omega) _
  case round =>
    obtain ⟨j, xs, rfl, hj, HT, HW⟩ := hrel
    rcases Nat.eq_zero_or_pos gk with rfl | hp
    · obtain rfl : j = n := by omega
      have hbx := blk_lt HT.out.o
      go_wp2_with fail
      go_at_call 24
      refine (take_nil 5 _).mono ?_
      rintro e w1 ⟨rfl, rfl⟩
      go_wp2_with fail
      go_at_call 23
      refine (reset_nil _).mono ?_
      rintro e w2 ⟨rfl, rfl⟩
      go_wp2_with fail
      go_at_call 24
      refine (take_calls (w.heap.size + 1) 0 0 9 _ HT.out.o (by omega) (by omega) (by omega) (by omega) (by decide)).mono ?_
      rw [show tk 0 (0 : Nat) 9 = ((0, 0), (9, true, 0)) by decide]
      dsimp only [retT]
      rintro e3' w5 ⟨rfl, t5, u5⟩
      have HW5 := Hd.mk ((show Upd (fun k => k = w.heap.size + 1) w w5 from ((show Upd (fun k => k = w.heap.size + 1) w _ from Upd.of_below HW.out).trans u5 (fun _ _ h => h))).below (Nat.le_refl _) (fun k hk h => by omega))
      clear t5 u5
      go_wp2_with fail
      go_at_call 26
      refine (waits_nil _).mono ?_
      rintro e w6 ⟨rfl, rfl⟩
      go_wp2
      go_ret
      exact ⟨rfl, HW5.out⟩
    · obtain ⟨k, rfl⟩ : ∃ k, gk = k + 1 := ⟨gk - 1, by omega⟩
      obtain ⟨ad, b, r, hA, c1, c2, b0, b1⟩ := (HS.out.below HW.out).at_ j (by omega)
      subst hA
      have c3 : wr.cell? ⟨(ad.add (j * 2)).block, (ad.add (j * 2)).off + 1, none⟩ = some (.bool r) := by rw [show (⟨(ad.add (j * 2)).block, (ad.add (j * 2)).off + 1, none⟩ : Addr) = (ad.add (j * 2)).add 1 from rfl, add_add']; exact c2
      clear c2
      have hjn : j < n := by omega
      have hsz := HW.out.size
      cases r
      · go_wp2_with fail
        have HT0 := Hd.mk (HT.out.below ((Below.refl _ _).alloc (Nat.le_refl _) (.cells #[.int .u8 b, .bool false] 47)))
        have HW0 := Hd.mk (HW.out.alloc HW.out.size (.cells #[.int .u8 b, .bool false] 47))
        have hop := blk_cell (blk_new wr (.cells #[.int .u8 b, .bool false] 47)) 0
        obtain ⟨h1, h2, h3⟩ := tk_rt xs b HT.out.l b0
        obtain ⟨⟨v, d, e⟩, hr⟩ : ∃ r, (rt xs b).2 = r := ⟨_, rfl⟩
        obtain ⟨ys, hys⟩ : ∃ ys, (rt xs b).1 = ys := ⟨_, rfl⟩
        rw [hr] at h1
        rw [hys] at h2 h3
        have HL := Hd.mk h3
        have hl9 := HT.out.l
        go_at_call 24
        refine (take_calls w.heap.size (val xs) xs.length b _ HT0.out.t HT.out.l b0 b1 (val_nonneg xs) (val_lt xs)).mono ?_
        rw [h1, h2]
        dsimp only [retT]
        rintro e1 w1 ⟨rfl, t1, u1⟩
        have hop1 := u1.cell hop (by show ¬ wr.heap.size = w.heap.size; have := (blk_lt HT.out.t); omega)
        obtain ⟨t2, o2, A', n', c', x1, x2, x3⟩ := HT0.out.set_t u1 t1
        have HT2 := Hd.mk t2
        have HO2 := Hd.mk o2
        have HX1 := Hd.mk x1
        have HX2 := Hd.mk x2
        have HX3 := Hd.mk x3
        have HW1 := Hd.mk ((show Upd (fun k => k = w.heap.size) w w1 from ((show Upd (fun k => k = w.heap.size) w _ from Upd.of_below HW0.out).trans u1 (fun _ _ h => h))).below (Nat.le_refl _) (fun k hk h => by omega))
        clear t1 u1 h1 h2 h3 hop t2 o2 x1 x2 x3 HT0 HW0 c1 c3
        go_wp2_with fail
        go_at_call 25
        refine (rtake_calls (w.heap.size + 1 + 1) A' n' c' xs b _ HX1.out HX2.out (by have := HX2.out.len; omega) b0 b1).mono ?_
        unfold RtPost
        rw [hr, hys]
        dsimp only [retT]
        rintro e2 w2 ⟨A2, n2, c2, rfl, y1, y2, y3, u2⟩
        have hb2 := blk_lt HX1.out
        have HT3 : Hd (Tst w.heap.size w2 ys) := ⟨u2.blk HT2.out (by show ¬ w.heap.size = _; omega), u2.blk HO2.out (by show ¬ w.heap.size + 1 = _; omega), ⟨A2, n2, c2, y1, y2, fun ad e => by have := y3 ad e; omega⟩, HL.out⟩
        have hyl := y2.len
        have HW2 := Hd.mk ((show Upd (fun k => k = w.heap.size + 1 + 1) w w2 from ((show Upd (fun k => k = w.heap.size + 1 + 1) w _ from Upd.of_below HW1.out).trans u2 (fun _ _ h => h))).below (Nat.le_refl _) (fun k hk h => by omega))
        have cx := blk_cell y1 0
        simp at cx
        clear y1 y2 y3 u2 hr hys HX1 HX2 HX3 HT2 HO2 HW1 hop1
        go_wp2_with fail
        obtain rfl := hyl
        have hbx := blk_lt HT3.out.o
        go_quiet ((go_at_call 26; exact Calls.quiet_of_same (waits_calls w.heap.size (val ys) ys.length _ HT3.out.t)))
        have HT4 := Hd.mk (HT3.out.below (pw_below_drewN (Below.refl _ _) nq))
        have HW4 := Hd.mk (pw_below_drewN HW2.out nq)
        obtain ⟨w4, hw4⟩ : ∃ w4, w2.drewN nq = w4 := ⟨_, rfl⟩
        rw [hw4] at HT4 HW4 ⊢
        clear hw4 HT3 HW2
        by_cases h3 : (j : Int) % 3 = 0
        · have e3 : ((j : Int) % 3 == 0) = true := by simpa using h3
          clear h3 cx
          go_wp2_with fail
          go_at_call 24
          refine (take_calls (w.heap.size + 1) 0 0 133 _ HT4.out.o (by omega) (by omega) (by omega) (by omega) (by decide)).mono ?_
          rw [show tk 0 (0 : Nat) 133 = ((5, 1), (0, false, 0)) by decide]
          dsimp only [retT]
          rintro e3' w5 ⟨rfl, t5, u5⟩
          have T5 := Hd.mk t5
          have HU5 := Hd.mk u5
          clear t5 u5
          go_wp2_with fail
          go_at_call 26
          refine (waits_calls _ 5 1 _ T5.out).mono ?_
          rintro e4' w6 ⟨rfl, rfl⟩
          go_wp2_with fail
          go_at_call 23
          refine (reset_calls _ 5 1 _ T5.out).mono ?_
          rintro e5' w7 ⟨rfl, rfl⟩
          have HU7 := Hd.mk ((HU5.out.set1 0 (.int .u64 0)).set1 1 (.int .i64 0))
          have T7 := Hd.mk ((T5.out.set 0).set1 0)
          go_wp2_with fail
          go_roundg k
          case measure => omega
          case rel =>
            refine ⟨j + 1, ys, by go_num, by omega, ⟨HT4.out.set_o (w' := _) HU7.out T7.out⟩, ⟨?_⟩⟩
            exact ((show Upd (fun k => k = w.heap.size + 1) w _ from ((show Upd (fun k => k = w.heap.size + 1) w _ from Upd.of_below HW4.out).trans HU7.out (fun _ _ h => h))).below (Nat.le_refl _) (fun k hk h => by omega))
        · have e3 : ((j : Int) % 3 == 0) = false := by simpa using h3
          clear h3 cx
          go_wp2_with fail
          go_roundg k
          case measure => omega
          case rel => exact ⟨j + 1, ys, by go_num, by omega, HT4, HW4⟩
      · go_wp2_with fail
        have HT0 := Hd.mk (HT.out.below ((Below.refl _ _).alloc (Nat.le_refl _) (.cells #[.int .u8 b, .bool true] 47)))
        have HW0 := Hd.mk (HW.out.alloc HW.out.size (.cells #[.int .u8 b, .bool true] 47))
        go_at_call 23
        refine (reset_calls _ _ _ _ HT0.out.t).mono ?_
        rintro e1 w1 ⟨rfl, hw1⟩
        have u1 := ((Upd.refl (· = w.heap.size) (wr.alloc (.cells #[.int .u8 b, .bool true] 47))).set1 0 (.int .u64 0)).set1 1 (.int .i64 0)
        have t1 := (HT0.out.t.set 0).set1 0
        rw [← hw1] at u1 t1
        obtain ⟨t2, o2, A', n', c', x1, x2, x3⟩ := HT0.out.set_t (ys := []) u1 t1
        have HT2 := Hd.mk t2
        have HO2 := Hd.mk o2
        have HX1 := Hd.mk x1
        have cx := blk_cell x1 0
        have fx := blk_frozen x1 0
        simp at cx
        have HW1 := Hd.mk ((show Upd (fun k => k = w.heap.size) w w1 from ((show Upd (fun k => k = w.heap.size) w _ from Upd.of_below HW0.out).trans u1 (fun _ _ h => h))).below (Nat.le_refl _) (fun k hk h => by omega))
        clear t1 u1 t2 o2 x1 x2 x3 HT0 HW0 c1 c3 hw1
        go_wp2_with fail
        have u2 := (Upd.refl (· = w.heap.size + 1 + 1) w1).set1 0 (.slice none 0 0)
        have hb2 := blk_lt HX1.out
        have y1 := blk_set HX1.out 0 (.slice none 0 0)
        simp at y1
        obtain ⟨w2, hw2⟩ : ∃ w2, w1.setCell ⟨w.heap.size + 1 + 1, 0, none⟩ (.slice none 0 0) = w2 := ⟨_, rfl⟩
        rw [hw2] at u2 y1 ⊢
        obtain ⟨ys, hys⟩ : ∃ ys : List Int, ys = [] := ⟨_, rfl⟩
        have HT3 : Hd (Tst w.heap.size w2 ys) := by
          rw [hys]
          exact ⟨u2.blk HT2.out (by show ¬ w.heap.size = _; omega), u2.blk HO2.out (by show ¬ w.heap.size + 1 = _; omega), ⟨none, 0, 0, y1, ⟨Kd.C_nil _ _, Nat.le_refl _, by simp⟩, fun ad e => by cases e⟩, by simp⟩
        have HW2 := Hd.mk ((show Upd (fun k => k = w.heap.size + 1 + 1) w w2 from ((show Upd (fun k => k = w.heap.size + 1 + 1) w _ from Upd.of_below HW1.out).trans u2 (fun _ _ h => h))).below (Nat.le_refl _) (fun k hk h => by omega))
        have cx2 := blk_cell y1 0
        simp at cx2
        have hyl0 : ((ys.length : Int) != 0) = false := by rw [hys]; rfl
        clear cx fx u2 y1 hys HX1 HT2 HO2 HW1 hw2
        have hbx := blk_lt HT3.out.o
        go_quiet ((go_at_call 26; exact Calls.quiet_of_same (waits_calls w.heap.size (val ys) ys.length _ HT3.out.t)))
        have HT4 := Hd.mk (HT3.out.below (pw_below_drewN (Below.refl _ _) nq))
        have HW4 := Hd.mk (pw_below_drewN HW2.out nq)
        obtain ⟨w4, hw4⟩ : ∃ w4, w2.drewN nq = w4 := ⟨_, rfl⟩
        rw [hw4] at HT4 HW4 ⊢
        clear hw4 HT3 HW2
        by_cases h3 : (j : Int) % 3 = 0
        · have e3 : ((j : Int) % 3 == 0) = true := by simpa using h3
          clear h3 cx2 hyl0
          go_wp2_with fail
          go_at_call 24
          refine (take_calls (w.heap.size + 1) 0 0 133 _ HT4.out.o (by omega) (by omega) (by omega) (by omega) (by decide)).mono ?_
          rw [show tk 0 (0 : Nat) 133 = ((5, 1), (0, false, 0)) by decide]
          dsimp only [retT]
          rintro e3' w5 ⟨rfl, t5, u5⟩
          have T5 := Hd.mk t5
          have HU5 := Hd.mk u5
          clear t5 u5
          go_wp2_with fail
          go_at_call 26
          refine (waits_calls _ 5 1 _ T5.out).mono ?_
          rintro e4' w6 ⟨rfl, rfl⟩
          go_wp2_with fail
          go_at_call 23
          refine (reset_calls _ 5 1 _ T5.out).mono ?_
          rintro e5' w7 ⟨rfl, rfl⟩
          have HU7 := Hd.mk ((HU5.out.set1 0 (.int .u64 0)).set1 1 (.int .i64 0))
          have T7 := Hd.mk ((T5.out.set 0).set1 0)
          go_wp2_with fail
          go_roundg k
          case measure => omega
          case rel =>
            refine ⟨j + 1, ys, by go_num, by omega, ⟨HT4.out.set_o (w' := _) HU7.out T7.out⟩, ⟨?_⟩⟩
            exact ((show Upd (fun k => k = w.heap.size + 1) w _ from ((show Upd (fun k => k = w.heap.size + 1) w _ from Upd.of_below HW4.out).trans HU7.out (fun _ _ h => h))).below (Nat.le_refl _) (fun k hk h => by omega))
        · have e3 : ((j : Int) % 3 == 0) = false := by simpa using h3
          clear h3 cx2 hyl0
          go_wp2_with fail
          go_roundg k
          case measure => omega
          case rel => exact ⟨j + 1, ys, by go_num, by omega, HT4, HW4⟩
end Go.Proofs.Ytpjfepeedfbpfaa
