/- num: the law NumOne: its walk. -/
import Derived.Test.YtpjfepeedfbpfaaNe
import Derived.Test.YtpjfepeedfbpfaaPl
import Derived.Deep.RegionHeld3
namespace Go.Proofs.Ytpjfepeedfbpfaa
open Go.RowKit Go.Proofs.YtpjfepeedfbpfaaW.PrintWords Go.Proofs.YtpjfepeedfbpfaaW.PrintLast Go.Proofs.YtpjfepeedfbpfaaW.PrintMore
set_option linter.unusedVariables false
set_option linter.unusedSimpArgs false

theorem enc1_calls (x : Int) (W : World) (h0 : 0 ≤ x) (h1 : x ≤ 18446744073709551615) :
    Calls Try.prog 32 #[.slice (some ⟨W.heap.size, 0, none⟩) 1 1] (W.alloc (.cells #[.int .u64 x] 22)) fun e w' => ∃ A c, e = .returned (.slice A (bytesN x).length c) ∧ OB w' (W.heap.size + 1) (.slice A (bytesN x).length c) (bytesN x) ∧ Below W.heap.size W w' := by
  refine (encode_calls _ 1 1 [x] _ (u64s_lit W [x] 1 rfl (by simpa using ⟨h0, h1⟩) (by omega))).mono ?_
  rintro e w' ⟨v, rfl, h2, h3⟩
  have e1 : bytesL [x] = bytesN x := by simp [bytesL]
  rw [e1] at h2
  obtain ⟨A, c, rfl, _⟩ := own_C h2
  refine ⟨A, c, rfl, ?_, below_step ((Below.refl _ _).alloc (Nat.le_refl _) _) h3⟩
  have hs : (W.alloc (.cells (nums .u64 [x]).toArray 22)).heap.size = W.heap.size + 1 := by simp
  rwa [hs] at h2

theorem OB.bs2 {w : World} {base c n : Nat} {A : Option Addr} {xs : List Int} (h : OB w base (.slice A n c) xs) (hr : ∀ x ∈ xs, 0 ≤ x ∧ x ≤ 255) : Bs w A n c xs := by
  obtain ⟨A', c', e, hb⟩ := OB.bs h hr
  cases e
  exact hb
theorem enc1_calls_d (x : Int) (W : World) (h0 : 0 ≤ x) (h1 : x ≤ 18446744073709551615) :
    Calls Try.prog 32 #[.slice (some ⟨W.heap.size, 0, none⟩) 1 1] (W.alloc (.cells #[.int .u64 x] 22)).drew fun e w' => ∃ A c, e = .returned (.slice A (bytesN x).length c) ∧ OB w' (W.heap.size + 1) (.slice A (bytesN x).length c) (bytesN x) ∧ Below W.heap.size W w' :=
  (enc1_calls x W.drew h0 h1).mono fun e w' ⟨A, c, h2, h3, h4⟩ => ⟨A, c, h2, h3, ⟨h4.os, h4.tape, h4.output, h4.size, h4.block⟩⟩
set_option maxHeartbeats 4000000 in
set_option maxRecDepth 100000 in
theorem walk_numOne (a : Option Addr) (n c : Nat) (zs : List Int) (u v : Int) (w : World) (h : IsRow .u8 w a n c zs) (y : n * 1 ≤ 140737488351232) (hu : (Lit.int .u64 u).wf = true) (hv : (Lit.int .u64 v).wf = true) :
    Calls Try.prog 9 #[.slice a n c, .int .u64 u, .int .u64 v] w fun e w' => e = .returned (.bool true) ∧ Below w.heap.size w w' := by
  obtain ⟨xs, hB⟩ := h.bytes
  have HB := Hd.mk hB
  have hxl := hB.len
  have hcap := hB.hc
  obtain ⟨u0, u1⟩ := bounds_u64 hu
  obtain ⟨v0, v1⟩ := bounds_u64 hv
  obtain ⟨⟨q, k, e⟩, hr⟩ : ∃ r, rdN xs = r := ⟨_, rfl⟩
  have HR := Hd.mk hr
  have hok := rdN_ok hB.hr hr
  clear h hB hu hv hr
  rcases hok with ⟨he, hq0, hk0⟩ | ⟨he, j, hk, hj, hj9, q0, q1, hq⟩
  · have he' : (e == 0) = false := by simpa using he
    have hq' : (q != 0) = false := by simp [hq0]
    have hk' : (k != 0) = false := by simp [hk0]
    have HE := Hd.mk he
    clear he hq0 hk0
    go_enter Try.func9, Try.ntmps9
    go_wp2_with fail
    go_at_call 30
    refine (decode_calls _ _ _ _ _ HB.out.C HB.out.hc HB.out.hr).mono ?_
    rw [HR.out]
    dsimp only [ret3]
    rintro e9 w1 ⟨rfl, h1⟩
    have HBQ := Hd.mk h1
    clear h1
    go_wp2_with fail
    go_loopg [52] n (fun g i w' => ∃ j : Nat, i = .int .i64 j ∧ j + g = n ∧ j ≤ 9 ∧ Hd (rdA xs g j = (q, k, e)) ∧ Hd (Tkr w' w1.heap.size (val (xs.take j)) j) ∧ Hd (Below w.heap.size w w'))
    case atStart => exact ⟨0, rfl, by omega, by omega, ⟨by rw [← HR.out, rdN, hxl]⟩, ⟨blk_new w1 _⟩, ⟨HBQ.out.alloc HBQ.out.size _⟩⟩
    case round =>
      clear HR
      obtain ⟨j, rfl, hj, h9, HR, HT, HBW⟩ := hrel
      have hgs := HBQ.out.size
      rcases Nat.eq_zero_or_pos gk with rfl | hp
      · obtain rfl : n = j := by omega
        clear hj
        go_wp2_with fail
        go_at_call 32
        refine (enc1_calls u _ u0 u1).mono ?_
        rintro e5 w5 ⟨A5, c5, rfl, h5, h6⟩
        obtain ⟨lu, elu⟩ : ∃ m, (bytesN u).length = m := ⟨_, rfl⟩
        have ELU := Hd.mk elu
        rw [elu] at h5 ⊢
        clear elu
        have H5 := Hd.mk h5
        have HB5 := Hd.mk (below_step HBW.out h6)
        clear h5 h6
        go_wp2_with fail
        go_at_call 32
        refine (enc1_calls v _ v0 v1).mono ?_
        rintro e6 w6 ⟨A6, c6, rfl, h5, h6⟩
        obtain ⟨lv, elv⟩ : ∃ m, (bytesN v).length = m := ⟨_, rfl⟩
        have ELV := Hd.mk elv
        rw [elv] at h5 ⊢
        clear elv
        have H6 := Hd.mk (OB.bs2 h5 (bytesN_range v0 v1))
        have HB6 := Hd.mk (below_step HB5.out h6)
        have H56 := Hd.mk (OB.bs2 (H5.out.below h6) (bytesN_range u0 u1))
        clear h5 h6
        have hl1 := (encN_len 9 u).1
        have hl2 := (encN_len 9 v).1
        have hl3 := (encN_len 9 u).2
        have hl4 := (encN_len 9 v).2
        have hc6 := H6.out.hc
        rw [show (encN 9 u).length = lu from ELU.out] at hl1 hl3
        rw [show (encN 9 v).length = lv from ELV.out] at hl2 hl4
        have hz1 : ((lu : Int) == 0) = false := by simp; omega
        have hz2 : ((lv : Int) == 0) = false := by simp; omega
        by_cases huv : u = v
        · have huv' : (u == v) = true := by simp [huv]
          have HUV := Hd.mk huv
          clear huv
          go_wp2_with fail
          go_ret
          exact ⟨rfl, HB6.out⟩
        · have huv' : (u == v) = false := by simp [huv]
          have HUV := Hd.mk huv
          clear huv
          by_cases hll : lv < lu
          · go_wp2_with fail
            go_ret
            exact ⟨rfl, HB6.out⟩
          · go_wp2_with fail
            go_at_call 17
            refine (same_calls _ _ _ (bytesN u) _ _ _ ((bytesN v).take lu) _ H56.out (H6.out.pre lu (by omega))).mono ?_
            rw [decide_eq_false (fun h => HUV.out (enc_prefix u0 u1 v0 v1 (by rw [ELU.out]; exact h)))]
            rintro e7 w7 ⟨rfl, rfl⟩
            go_wp2_with fail
            go_ret
            exact ⟨rfl, HB6.out⟩
      · obtain ⟨g, rfl⟩ : ∃ k, gk = k + 1 := ⟨gk - 1, by omega⟩
        have hl : j < xs.length := by omega
        obtain ⟨ad, hA, hcell⟩ := at_byte (HB.out.below HBW.out).C j (by omega)
        subst hA
        have hr := HR.out
        rw [rdA] at hr
        obtain ⟨x0, x1⟩ := gb_range HB.out.hr j
        have T1 := Hd.mk (fun e => tk_wrong (e := e) hl)
        have T2 := Hd.mk (tk_more hl)
        have T3 := Hd.mk (tk_done hl)
        obtain ⟨vv, ev⟩ : ∃ v, val (xs.take j) = v := ⟨_, rfl⟩
        have hv0 := val_nonneg (xs.take j)
        have hv1 := val_lt (xs.take j)
        rw [List.length_take, Nat.min_eq_left (by omega), ev] at hv1
        have HV1 := Hd.mk hv1
        rw [ev] at hv0 T1 T2 T3 HT
        obtain ⟨x, ex⟩ : ∃ x, gb xs j = x := ⟨_, rfl⟩
        rw [ex] at hr hcell x0 x1 T1 T2 T3
        have EX := Hd.mk ex
        clear ex HR hv1 ev
        have hcall := Hd.mk (take_calls w1.heap.size vv j x wr HT.out h9 x0 x1 hv0 HV1.out)
        have hbelow : ∀ w', Upd (fun k => k = w1.heap.size) wr w' → Below w.heap.size w w' := fun w' hu => HBW.out.trans (hu.below HBW.out.size (fun k hk e => by omega))
        have HB' := Hd.mk hbelow
        clear hbelow
        obtain ⟨er, her⟩ : ∃ e, wrongB (j + 1 : Nat) x = e := ⟨_, rfl⟩
        by_cases hw : er = 0
        · subst hw
          rw [if_neg (by simpa using her)] at hr
          by_cases hx : x < 128
          · rw [if_pos hx] at hr
            have E3 := Hd.mk (T3.out her hx)
            obtain ⟨hr1, hr2⟩ := Prod.mk.inj hr
            obtain ⟨hr3, hr4⟩ := Prod.mk.inj hr2
            have q1 : (val (xs.take (j + 1)) != q) = false := by simp [hr1]
            have q2 : (e != 0) = false := by simp [← hr4]
            have q3 : ((j : Int) + 1 != k) = false := by simp [hr3]
            clear hr T1 T2 T3 her hr1 hr2 hr3 hr4
            go_wp2_with (first | (go_at_call 24; refine hcall.out.mono ?_; rw [E3.out]; unfold retT; dsimp only; rintro e4 w4 ⟨rfl, ht, hu⟩; have HT' := Hd.mk ht; have HBW := Hd.mk (HB'.out _ hu); clear ht hu))
            go_wp2_with fail
            go_at_call 32
            refine (enc1_calls u _ u0 u1).mono ?_
            rintro e5 w5 ⟨A5, c5, rfl, h5, h6⟩
            obtain ⟨lu, elu⟩ : ∃ m, (bytesN u).length = m := ⟨_, rfl⟩
            have ELU := Hd.mk elu
            rw [elu] at h5 ⊢
            clear elu
            have H5 := Hd.mk h5
            have HB5 := Hd.mk (below_step HBW.out h6)
            clear h5 h6
            go_wp2_with fail
            go_at_call 32
            refine (enc1_calls v _ v0 v1).mono ?_
            rintro e6 w6 ⟨A6, c6, rfl, h5, h6⟩
            obtain ⟨lv, elv⟩ : ∃ m, (bytesN v).length = m := ⟨_, rfl⟩
            have ELV := Hd.mk elv
            rw [elv] at h5 ⊢
            clear elv
            have H6 := Hd.mk (OB.bs2 h5 (bytesN_range v0 v1))
            have HB6 := Hd.mk (below_step HB5.out h6)
            have H56 := Hd.mk (OB.bs2 (H5.out.below h6) (bytesN_range u0 u1))
            clear h5 h6
            have hl1 := (encN_len 9 u).1
            have hl2 := (encN_len 9 v).1
            have hl3 := (encN_len 9 u).2
            have hl4 := (encN_len 9 v).2
            have hc6 := H6.out.hc
            rw [show (encN 9 u).length = lu from ELU.out] at hl1 hl3
            rw [show (encN 9 v).length = lv from ELV.out] at hl2 hl4
            have hz1 : ((lu : Int) == 0) = false := by simp; omega
            have hz2 : ((lv : Int) == 0) = false := by simp; omega
            by_cases huv : u = v
            · have huv' : (u == v) = true := by simp [huv]
              have HUV := Hd.mk huv
              clear huv
              go_wp2_with fail
              go_ret
              exact ⟨rfl, HB6.out⟩
            · have huv' : (u == v) = false := by simp [huv]
              have HUV := Hd.mk huv
              clear huv
              by_cases hll : lv < lu
              · go_wp2_with fail
                go_ret
                exact ⟨rfl, HB6.out⟩
              · go_wp2_with fail
                go_at_call 17
                refine (same_calls _ _ _ (bytesN u) _ _ _ ((bytesN v).take lu) _ H56.out (H6.out.pre lu (by omega))).mono ?_
                rw [decide_eq_false (fun h => HUV.out (enc_prefix u0 u1 v0 v1 (by rw [ELU.out]; exact h)))]
                rintro e7 w7 ⟨rfl, rfl⟩
                go_wp2_with fail
                go_ret
                exact ⟨rfl, HB6.out⟩
          · rw [if_neg hx] at hr
            have HR := Hd.mk hr
            have E3 := Hd.mk (show (tk vv j x).2 = (0, false, 0) by rw [T2.out her hx])
            have E4 := Hd.mk (T2.out her hx)
            have h9' := wrong9 h9 her hx
            have HN : Hd (j + 1 = n → e = 11) := ⟨fun h => by
              obtain rfl : g = 0 := by omega
              rw [rdA] at hr
              exact (Prod.mk.inj (Prod.mk.inj hr).2).2.symm⟩
            clear hr T1 T2 T3 her
            by_cases hjn : j + 1 = n
            · have q1 : ((j : Int) + 1 == n) = true := by simp; omega
              have q2 : (e != 11) = false := by simp [HN.out hjn]
              have HJ := Hd.mk hjn
              clear hjn
              go_wp2_with (first | (go_at_call 24; refine hcall.out.mono ?_; rw [E3.out]; unfold retT; dsimp only; rintro e4 w4 ⟨rfl, ht, hu⟩; have HT' := Hd.mk ht; have HBW := Hd.mk (HB'.out _ hu); clear ht hu))
              go_roundg g
              case measure => omega
              case rel => exact ⟨j + 1, by go_num, by omega, by omega, HR, ⟨by have := HT'.out; rw [E4.out] at this; exact this⟩, HBW⟩
            · have q1 : ((j : Int) + 1 == n) = false := by simp; omega
              have HJ := Hd.mk hjn
              clear hjn
              go_wp2_with (first | (go_at_call 24; refine hcall.out.mono ?_; rw [E3.out]; unfold retT; dsimp only; rintro e4 w4 ⟨rfl, ht, hu⟩; have HT' := Hd.mk ht; have HBW := Hd.mk (HB'.out _ hu); clear ht hu))
              go_roundg g
              case measure => omega
              case rel => exact ⟨j + 1, by go_num, by omega, by omega, HR, ⟨by have := HT'.out; rw [E4.out] at this; exact this⟩, HBW⟩
        · rw [if_pos (by rw [her]; exact hw), her] at hr
          have E3 := Hd.mk (T1.out _ her hw)
          obtain ⟨hr1, hr2⟩ := Prod.mk.inj hr
          obtain ⟨hr3, hr4⟩ := Prod.mk.inj hr2
          have q1 : (er != 0) = true := by simpa using hw
          have q2 : (er != e) = false := by simp [hr4]
          have HW := Hd.mk hw
          clear hr T1 T2 T3 her hr1 hr2 hr3 hr4 hw
          go_wp2_with (first | (go_at_call 24; refine hcall.out.mono ?_; rw [E3.out]; unfold retT; dsimp only; rintro e4 w4 ⟨rfl, ht, hu⟩; have HT' := Hd.mk ht; have HBW := Hd.mk (HB'.out _ hu); clear ht hu))
          go_wp2_with fail
          go_at_call 32
          refine (enc1_calls u _ u0 u1).mono ?_
          rintro e5 w5 ⟨A5, c5, rfl, h5, h6⟩
          obtain ⟨lu, elu⟩ : ∃ m, (bytesN u).length = m := ⟨_, rfl⟩
          have ELU := Hd.mk elu
          rw [elu] at h5 ⊢
          clear elu
          have H5 := Hd.mk h5
          have HB5 := Hd.mk (below_step HBW.out h6)
          clear h5 h6
          go_wp2_with fail
          go_at_call 32
          refine (enc1_calls v _ v0 v1).mono ?_
          rintro e6 w6 ⟨A6, c6, rfl, h5, h6⟩
          obtain ⟨lv, elv⟩ : ∃ m, (bytesN v).length = m := ⟨_, rfl⟩
          have ELV := Hd.mk elv
          rw [elv] at h5 ⊢
          clear elv
          have H6 := Hd.mk (OB.bs2 h5 (bytesN_range v0 v1))
          have HB6 := Hd.mk (below_step HB5.out h6)
          have H56 := Hd.mk (OB.bs2 (H5.out.below h6) (bytesN_range u0 u1))
          clear h5 h6
          have hl1 := (encN_len 9 u).1
          have hl2 := (encN_len 9 v).1
          have hl3 := (encN_len 9 u).2
          have hl4 := (encN_len 9 v).2
          have hc6 := H6.out.hc
          rw [show (encN 9 u).length = lu from ELU.out] at hl1 hl3
          rw [show (encN 9 v).length = lv from ELV.out] at hl2 hl4
          have hz1 : ((lu : Int) == 0) = false := by simp; omega
          have hz2 : ((lv : Int) == 0) = false := by simp; omega
          by_cases huv : u = v
          · have huv' : (u == v) = true := by simp [huv]
            have HUV := Hd.mk huv
            clear huv
            go_wp2_with fail
            go_ret
            exact ⟨rfl, HB6.out⟩
          · have huv' : (u == v) = false := by simp [huv]
            have HUV := Hd.mk huv
            clear huv
            by_cases hll : lv < lu
            · go_wp2_with fail
              go_ret
              exact ⟨rfl, HB6.out⟩
            · go_wp2_with fail
              go_at_call 17
              refine (same_calls _ _ _ (bytesN u) _ _ _ ((bytesN v).take lu) _ H56.out (H6.out.pre lu (by omega))).mono ?_
              rw [decide_eq_false (fun h => HUV.out (enc_prefix u0 u1 v0 v1 (by rw [ELU.out]; exact h)))]
              rintro e7 w7 ⟨rfl, rfl⟩
              go_wp2_with fail
              go_ret
              exact ⟨rfl, HB6.out⟩
  · obtain ⟨j0, rfl⟩ : ∃ j0, j0 = j := ⟨_, rfl⟩
    have HQ := Hd.mk hq
    have he' : (e == 0) = true := by simp [he]
    have HE := Hd.mk he
    have HK := Hd.mk hk
    clear hq he
    go_enter Try.func9, Try.ntmps9
    go_wp2_with fail
    go_at_call 30
    refine (decode_calls _ _ _ _ _ HB.out.C HB.out.hc HB.out.hr).mono ?_
    rw [HR.out]
    dsimp only [ret3]
    rintro e9 w1 ⟨rfl, h1⟩
    have HB1 := Hd.mk h1
    clear h1
    subst hk
    go_wp2_with fail
    have ht1 : decide ((j0 : Int) + 1 < 1) = false := by simp; omega
    have ht2 : decide ((n : Int) < (j0 : Int) + 1) = false := by simp; omega
    have hs1 : 0 ≤ (j0 : Int) + 1 := by omega
    have hs2 : (j0 : Int) + 1 ≤ (c : Int) := by omega
    refine start_ (n := 18) (S := fun w' => True) (ds := []) #[false, false, false, false, false, false, false, false, false, false, false, false, false, false, false, false, false, false] (by kernel_rfl) rfl rfl trivial (fun hHeld => ?_)
    refine pure_ (i := 0) (N := some 26) (v := ?_) (a' := ?_) #[true, false, false, false, false, false, false, false, false, false, false, false, false, false, false, false, false, false] rfl rfl (by kernel_rfl) (fun _ _ _ h => h) (Or.inl ⟨by rfl, ?_⟩) ?_ ?_
    rotate_left
    · intro w'
      go_simp
      with_reducible rfl
    rotate_left
    · simp only [Act.put, List.setIfInBounds_toArray, List.set_cons_zero, List.set_cons_succ, i64_w, i32_w]
      rfl
    refine pure_ (i := 1) (N := some 27) (v := ?_) (a' := ?_) #[true, true, false, false, false, false, false, false, false, false, false, false, false, false, false, false, false, false] rfl rfl (by kernel_rfl) (fun _ _ _ h => h) (Or.inl ⟨by rfl, ?_⟩) ?_ ?_
    rotate_left
    · intro w'
      go_simp
      with_reducible rfl
    rotate_left
    · simp only [Act.put, List.setIfInBounds_toArray, List.set_cons_zero, List.set_cons_succ, i64_w, i32_w]
      rfl
    refine pure_ (i := 2) (N := some 28) (v := ?_) (a' := ?_) #[true, true, true, false, false, false, false, false, false, false, false, false, false, false, false, false, false, false] rfl rfl (by kernel_rfl) (fun _ _ _ h => h) (Or.inl ⟨by rfl, ?_⟩) ?_ ?_
    rotate_left
    · intro w'
      go_simp
      with_reducible rfl
    rotate_left
    · simp only [Act.put, List.setIfInBounds_toArray, List.set_cons_zero, List.set_cons_succ, i64_w, i32_w]
      rfl
    refine pure_ (i := 3) (N := some 29) (v := ?_) (a' := ?_) #[true, true, true, true, false, false, false, false, false, false, false, false, false, false, false, false, false, false] rfl rfl (by kernel_rfl) (fun _ _ _ h => h) (Or.inl ⟨by rfl, ?_⟩) ?_ ?_
    rotate_left
    · intro w'
      go_simp
      with_reducible rfl
    rotate_left
    · simp only [Act.put, List.setIfInBounds_toArray, List.set_cons_zero, List.set_cons_succ, i64_w, i32_w]
      rfl
    refine pure_ (i := 4) (N := some 30) (v := ?_) (a' := ?_) #[true, true, true, true, true, false, false, false, false, false, false, false, false, false, false, false, false, false] rfl rfl (by kernel_rfl) (fun _ _ _ h => h) (Or.inl ⟨by rfl, ?_⟩) ?_ ?_
    rotate_left
    · intro w'
      go_simp
      with_reducible rfl
    rotate_left
    · simp only [Act.put, List.setIfInBounds_toArray, List.set_cons_zero, List.set_cons_succ, i64_w, i32_w]
      rfl
    refine pure_ (i := 5) (N := some 31) (v := ?_) (a' := ?_) #[true, true, true, true, true, true, false, false, false, false, false, false, false, false, false, false, false, false] rfl rfl (by kernel_rfl) (fun _ _ _ h => h) (Or.inl ⟨by rfl, ?_⟩) ?_ ?_
    rotate_left
    · intro w'
      go_simp
      with_reducible rfl
    rotate_left
    · simp only [Act.put, List.setIfInBounds_toArray, List.set_cons_zero, List.set_cons_succ, i64_w, i32_w]
      rfl
    refine pure_ (i := 6) (N := some 32) (v := ?_) (a' := ?_) #[true, true, true, true, true, true, true, false, false, false, false, false, false, false, false, false, false, false] rfl rfl (by kernel_rfl) (fun _ _ _ h => h) (Or.inl ⟨by rfl, ?_⟩) ?_ ?_
    rotate_left
    · intro w'
      go_simp
      with_reducible rfl
    rotate_left
    · simp only [Act.put, List.setIfInBounds_toArray, List.set_cons_zero, List.set_cons_succ, i64_w, i32_w]
      rfl
    refine pure_ (i := 7) (N := some 33) (v := ?_) (a' := ?_) #[true, true, true, true, true, true, true, true, false, false, false, false, false, false, false, false, false, false] rfl rfl (by kernel_rfl) (fun _ _ _ h => h) (Or.inl ⟨by rfl, ?_⟩) ?_ ?_
    rotate_left
    · intro w'
      go_simp
      with_reducible rfl
    rotate_left
    · simp only [Act.put, List.setIfInBounds_toArray, List.set_cons_zero, List.set_cons_succ, i64_w, i32_w]
      rfl
    refine pure_ (i := 8) (N := some 34) (v := ?_) (a' := ?_) #[true, true, true, true, true, true, true, true, true, false, false, false, false, false, false, false, false, false] rfl rfl (by kernel_rfl) (fun _ _ _ h => h) (Or.inl ⟨by rfl, ?_⟩) ?_ ?_
    rotate_left
    · intro w'
      go_simp
      with_reducible rfl
    rotate_left
    · simp only [Act.put, List.setIfInBounds_toArray, List.set_cons_zero, List.set_cons_succ, i64_w, i32_w]
      rfl
    refine pure_ (i := 9) (N := some 35) (v := ?_) (a' := ?_) #[true, true, true, true, true, true, true, true, true, true, false, false, false, false, false, false, false, false] rfl rfl (by kernel_rfl) (fun _ _ _ h => h) (Or.inl ⟨by rfl, ?_⟩) ?_ ?_
    rotate_left
    · intro w'
      go_simp
      with_reducible rfl
    rotate_left
    · simp only [Act.put, List.setIfInBounds_toArray, List.set_cons_zero, List.set_cons_succ, i64_w, i32_w]
      rfl
    refine pure_ (i := 12) (N := some 38) (v := ?_) (a' := ?_) #[true, true, true, true, true, true, true, true, true, true, false, false, true, false, false, false, false, false] rfl rfl (by kernel_rfl) (fun _ _ _ h => h) (Or.inl ⟨by rfl, ?_⟩) ?_ ?_
    rotate_left
    · intro w'
      go_simp
      with_reducible rfl
    rotate_left
    · simp only [Act.put, List.setIfInBounds_toArray, List.set_cons_zero, List.set_cons_succ, i64_w, i32_w]
      rfl
    refine pure_ (i := 13) (N := some 39) (v := ?_) (a' := ?_) #[true, true, true, true, true, true, true, true, true, true, false, false, true, true, false, false, false, false] rfl rfl (by kernel_rfl) (fun _ _ _ h => h) (Or.inl ⟨by rfl, ?_⟩) ?_ ?_
    rotate_left
    · intro w'
      go_simp
      with_reducible rfl
    rotate_left
    · simp only [Act.put, List.setIfInBounds_toArray, List.set_cons_zero, List.set_cons_succ, i64_w, i32_w]
      rfl
    refine pure_ (i := 14) (N := some 40) (v := ?_) (a' := ?_) #[true, true, true, true, true, true, true, true, true, true, false, false, true, true, true, false, false, false] rfl rfl (by kernel_rfl) (fun _ _ _ h => h) (Or.inl ⟨by rfl, ?_⟩) ?_ ?_
    rotate_left
    · intro w'
      go_simp
      with_reducible rfl
    rotate_left
    · simp only [Act.put, List.setIfInBounds_toArray, List.set_cons_zero, List.set_cons_succ, i64_w, i32_w]
      rfl
    refine one_ (i := 10) (N := some 36) #[true, true, true, true, true, true, true, true, true, true, true, false, true, true, true, false, false, false] rfl rfl (by kernel_rfl) (by decide) (fun K hK => ?_)
    refine value_ (w1 := ?_) (v := ?_) (by rfl) rfl ?_ ?_
    rotate_left 2
    · go_simp
      constructor
      · rfl
      · rfl
    refine hK.out _ _ trivial (fun hHeld => ?_)
    clear hK K
    refine norm_ (a' := ?_) ?_ ?_
    rotate_left
    · show Act.put _ (some 36) _ = _
      simp only [Act.put, List.setIfInBounds_toArray, List.set_cons_zero, List.set_cons_succ, i64_w, i32_w]
      rfl
    refine one_ (i := 11) (N := some 37) #[true, true, true, true, true, true, true, true, true, true, true, true, true, true, true, false, false, false] rfl rfl (by kernel_rfl) (by decide) (fun K hK => ?_)
    refine goes_ Try.func32 (by kernel_rfl) rfl #[.slice (some ⟨w1.heap.size, 0, none⟩) 1 1] (by rfl) rfl rfl (by simp only [List.map_toArray, List.map_cons, List.map_nil]; rfl) ?_
    with_reducible refine (enc1_calls_d q w1 q0 q1).mono ?_
    rintro e w2 ⟨A1, c1, rfl, h1, h2⟩
    refine ⟨_, rfl, ?_⟩
    have H1 := Hd.mk h1
    have H2 := Hd.mk h2
    clear h1 h2
    refine hK.out _ _ trivial (fun hHeld => ?_)
    clear hK K
    refine norm_ (a' := ?_) ?_ ?_
    rotate_left
    · show Act.put _ (some 37) _ = _
      simp only [Act.put, List.setIfInBounds_toArray, List.set_cons_zero, List.set_cons_succ, i64_w, i32_w]
      rfl
    refine one_ (i := 15) (N := some 41) #[true, true, true, true, true, true, true, true, true, true, true, true, true, true, true, true, false, false] rfl rfl (by kernel_rfl) (by decide) (fun K hK => ?_)
    refine goes_ Try.func17 (by kernel_rfl) rfl #[.slice A1 (bytesN q).length c1, .slice a (j0 + 1) c] (by rfl) rfl rfl (by simp only [List.map_toArray, List.map_cons, List.map_nil]; rfl) ?_
    with_reducible refine (same_yes _ _ _ (bytesN q) _ _ _ _ (H1.out.bs1 (bytesN_range q0 q1)) (by rw [HQ.out]; exact (HB.out.below (below_step HB1.out H2.out)).pre (j0 + 1) (by omega))).mono ?_
    rintro e w3 ⟨rfl, rfl⟩
    refine ⟨_, rfl, ?_⟩
    refine hK.out _ _ trivial (fun hHeld => ?_)
    clear hK K
    refine norm_ (a' := ?_) ?_ ?_
    rotate_left
    · show Act.put _ (some 41) _ = _
      simp only [Act.put, List.setIfInBounds_toArray, List.set_cons_zero, List.set_cons_succ, i64_w, i32_w]
      rfl
    refine pure_ (i := 16) (N := some 42) (v := ?_) (a' := ?_) #[true, true, true, true, true, true, true, true, true, true, true, true, true, true, true, true, true, false] rfl rfl (by kernel_rfl) (fun _ _ _ h => h) (Or.inl ⟨by rfl, ?_⟩) ?_ ?_
    rotate_left
    · intro w'
      go_simp
      with_reducible rfl
    rotate_left
    · simp only [Act.put, List.setIfInBounds_toArray, List.set_cons_zero, List.set_cons_succ, i64_w, i32_w]
      rfl
    refine pure_ (i := 17) (N := some 43) (v := ?_) (a' := ?_) #[true, true, true, true, true, true, true, true, true, true, true, true, true, true, true, true, true, true] rfl rfl (by kernel_rfl) (fun _ _ _ h => h) (Or.inl ⟨by rfl, ?_⟩) ?_ ?_
    rotate_left
    · intro w'
      go_simp
      with_reducible rfl
    rotate_left
    · simp only [Act.put, List.setIfInBounds_toArray, List.set_cons_zero, List.set_cons_succ, i64_w, i32_w]
      rfl
    refine done_ (by kernel_rfl) ?_
    have HBQ := Hd.mk (below_step HB1.out H2.out)
    clear ht1 ht2 hs1 hs2
    go_wp2_with fail
    go_loopg [52] n (fun g i w' => ∃ j : Nat, i = .int .i64 j ∧ j + g = n ∧ j ≤ 9 ∧ Hd (rdA xs g j = (q, (j0 : Int) + 1, e)) ∧ Hd (Tkr w' w3.heap.size (val (xs.take j)) j) ∧ Hd (Below w.heap.size w w'))
    case atStart => exact ⟨0, rfl, by omega, by omega, ⟨by rw [← HR.out, rdN, hxl]⟩, ⟨blk_new w3 _⟩, ⟨HBQ.out.alloc HBQ.out.size _⟩⟩
    case round =>
      clear HR
      obtain ⟨j, rfl, hj, h9, HR, HT, HBW⟩ := hrel
      have hgs := HBQ.out.size
      rcases Nat.eq_zero_or_pos gk with rfl | hp
      · obtain rfl : n = j := by omega
        clear hj
        go_wp2_with fail
        go_at_call 32
        refine (enc1_calls u _ u0 u1).mono ?_
        rintro e5 w5 ⟨A5, c5, rfl, h5, h6⟩
        obtain ⟨lu, elu⟩ : ∃ m, (bytesN u).length = m := ⟨_, rfl⟩
        have ELU := Hd.mk elu
        rw [elu] at h5 ⊢
        clear elu
        have H5 := Hd.mk h5
        have HB5 := Hd.mk (below_step HBW.out h6)
        clear h5 h6
        go_wp2_with fail
        go_at_call 32
        refine (enc1_calls v _ v0 v1).mono ?_
        rintro e6 w6 ⟨A6, c6, rfl, h5, h6⟩
        obtain ⟨lv, elv⟩ : ∃ m, (bytesN v).length = m := ⟨_, rfl⟩
        have ELV := Hd.mk elv
        rw [elv] at h5 ⊢
        clear elv
        have H6 := Hd.mk (OB.bs2 h5 (bytesN_range v0 v1))
        have HB6 := Hd.mk (below_step HB5.out h6)
        have H56 := Hd.mk (OB.bs2 (H5.out.below h6) (bytesN_range u0 u1))
        clear h5 h6
        have hl1 := (encN_len 9 u).1
        have hl2 := (encN_len 9 v).1
        have hl3 := (encN_len 9 u).2
        have hl4 := (encN_len 9 v).2
        have hc6 := H6.out.hc
        rw [show (encN 9 u).length = lu from ELU.out] at hl1 hl3
        rw [show (encN 9 v).length = lv from ELV.out] at hl2 hl4
        have hz1 : ((lu : Int) == 0) = false := by simp; omega
        have hz2 : ((lv : Int) == 0) = false := by simp; omega
        by_cases huv : u = v
        · have huv' : (u == v) = true := by simp [huv]
          have HUV := Hd.mk huv
          clear huv
          go_wp2_with fail
          go_ret
          exact ⟨rfl, HB6.out⟩
        · have huv' : (u == v) = false := by simp [huv]
          have HUV := Hd.mk huv
          clear huv
          by_cases hll : lv < lu
          · go_wp2_with fail
            go_ret
            exact ⟨rfl, HB6.out⟩
          · go_wp2_with fail
            go_at_call 17
            refine (same_calls _ _ _ (bytesN u) _ _ _ ((bytesN v).take lu) _ H56.out (H6.out.pre lu (by omega))).mono ?_
            rw [decide_eq_false (fun h => HUV.out (enc_prefix u0 u1 v0 v1 (by rw [ELU.out]; exact h)))]
            rintro e7 w7 ⟨rfl, rfl⟩
            go_wp2_with fail
            go_ret
            exact ⟨rfl, HB6.out⟩
      · obtain ⟨g, rfl⟩ : ∃ k, gk = k + 1 := ⟨gk - 1, by omega⟩
        have hl : j < xs.length := by omega
        obtain ⟨ad, hA, hcell⟩ := at_byte (HB.out.below HBW.out).C j (by omega)
        subst hA
        have hr := HR.out
        rw [rdA] at hr
        obtain ⟨x0, x1⟩ := gb_range HB.out.hr j
        have T1 := Hd.mk (fun e => tk_wrong (e := e) hl)
        have T2 := Hd.mk (tk_more hl)
        have T3 := Hd.mk (tk_done hl)
        obtain ⟨vv, ev⟩ : ∃ v, val (xs.take j) = v := ⟨_, rfl⟩
        have hv0 := val_nonneg (xs.take j)
        have hv1 := val_lt (xs.take j)
        rw [List.length_take, Nat.min_eq_left (by omega), ev] at hv1
        have HV1 := Hd.mk hv1
        rw [ev] at hv0 T1 T2 T3 HT
        obtain ⟨x, ex⟩ : ∃ x, gb xs j = x := ⟨_, rfl⟩
        rw [ex] at hr hcell x0 x1 T1 T2 T3
        have EX := Hd.mk ex
        clear ex HR hv1 ev
        have hcall := Hd.mk (take_calls w3.heap.size vv j x wr HT.out h9 x0 x1 hv0 HV1.out)
        have hbelow : ∀ w', Upd (fun k => k = w3.heap.size) wr w' → Below w.heap.size w w' := fun w' hu => HBW.out.trans (hu.below HBW.out.size (fun k hk e => by omega))
        have HB' := Hd.mk hbelow
        clear hbelow
        obtain ⟨er, her⟩ : ∃ e, wrongB (j + 1 : Nat) x = e := ⟨_, rfl⟩
        by_cases hw : er = 0
        · subst hw
          rw [if_neg (by simpa using her)] at hr
          by_cases hx : x < 128
          · rw [if_pos hx] at hr
            have E3 := Hd.mk (T3.out her hx)
            obtain ⟨hr1, hr2⟩ := Prod.mk.inj hr
            obtain ⟨hr3, hr4⟩ := Prod.mk.inj hr2
            have q1 : (val (xs.take (j + 1)) != q) = false := by simp [hr1]
            have q2 : (e != 0) = false := by simp [← hr4]
            have q3 : ((j : Int) + 1 != (j0 : Int) + 1) = false := by simp [hr3]
            clear hr T1 T2 T3 her hr1 hr2 hr3 hr4
            go_wp2_with (first | (go_at_call 24; refine hcall.out.mono ?_; rw [E3.out]; unfold retT; dsimp only; rintro e4 w4 ⟨rfl, ht, hu⟩; have HT' := Hd.mk ht; have HBW := Hd.mk (HB'.out _ hu); clear ht hu))
            go_wp2_with fail
            go_at_call 32
            refine (enc1_calls u _ u0 u1).mono ?_
            rintro e5 w5 ⟨A5, c5, rfl, h5, h6⟩
            obtain ⟨lu, elu⟩ : ∃ m, (bytesN u).length = m := ⟨_, rfl⟩
            have ELU := Hd.mk elu
            rw [elu] at h5 ⊢
            clear elu
            have H5 := Hd.mk h5
            have HB5 := Hd.mk (below_step HBW.out h6)
            clear h5 h6
            go_wp2_with fail
            go_at_call 32
            refine (enc1_calls v _ v0 v1).mono ?_
            rintro e6 w6 ⟨A6, c6, rfl, h5, h6⟩
            obtain ⟨lv, elv⟩ : ∃ m, (bytesN v).length = m := ⟨_, rfl⟩
            have ELV := Hd.mk elv
            rw [elv] at h5 ⊢
            clear elv
            have H6 := Hd.mk (OB.bs2 h5 (bytesN_range v0 v1))
            have HB6 := Hd.mk (below_step HB5.out h6)
            have H56 := Hd.mk (OB.bs2 (H5.out.below h6) (bytesN_range u0 u1))
            clear h5 h6
            have hl1 := (encN_len 9 u).1
            have hl2 := (encN_len 9 v).1
            have hl3 := (encN_len 9 u).2
            have hl4 := (encN_len 9 v).2
            have hc6 := H6.out.hc
            rw [show (encN 9 u).length = lu from ELU.out] at hl1 hl3
            rw [show (encN 9 v).length = lv from ELV.out] at hl2 hl4
            have hz1 : ((lu : Int) == 0) = false := by simp; omega
            have hz2 : ((lv : Int) == 0) = false := by simp; omega
            by_cases huv : u = v
            · have huv' : (u == v) = true := by simp [huv]
              have HUV := Hd.mk huv
              clear huv
              go_wp2_with fail
              go_ret
              exact ⟨rfl, HB6.out⟩
            · have huv' : (u == v) = false := by simp [huv]
              have HUV := Hd.mk huv
              clear huv
              by_cases hll : lv < lu
              · go_wp2_with fail
                go_ret
                exact ⟨rfl, HB6.out⟩
              · go_wp2_with fail
                go_at_call 17
                refine (same_calls _ _ _ (bytesN u) _ _ _ ((bytesN v).take lu) _ H56.out (H6.out.pre lu (by omega))).mono ?_
                rw [decide_eq_false (fun h => HUV.out (enc_prefix u0 u1 v0 v1 (by rw [ELU.out]; exact h)))]
                rintro e7 w7 ⟨rfl, rfl⟩
                go_wp2_with fail
                go_ret
                exact ⟨rfl, HB6.out⟩
          · rw [if_neg hx] at hr
            have HR := Hd.mk hr
            have E3 := Hd.mk (show (tk vv j x).2 = (0, false, 0) by rw [T2.out her hx])
            have E4 := Hd.mk (T2.out her hx)
            have h9' := wrong9 h9 her hx
            have HN : Hd (j + 1 = n → e = 11) := ⟨fun h => by
              obtain rfl : g = 0 := by omega
              rw [rdA] at hr
              exact (Prod.mk.inj (Prod.mk.inj hr).2).2.symm⟩
            clear hr T1 T2 T3 her
            by_cases hjn : j + 1 = n
            · have q1 : ((j : Int) + 1 == n) = true := by simp; omega
              have q2 : (e != 11) = false := by simp [HN.out hjn]
              have HJ := Hd.mk hjn
              clear hjn
              go_wp2_with (first | (go_at_call 24; refine hcall.out.mono ?_; rw [E3.out]; unfold retT; dsimp only; rintro e4 w4 ⟨rfl, ht, hu⟩; have HT' := Hd.mk ht; have HBW := Hd.mk (HB'.out _ hu); clear ht hu))
              go_roundg g
              case measure => omega
              case rel => exact ⟨j + 1, by go_num, by omega, by omega, HR, ⟨by have := HT'.out; rw [E4.out] at this; exact this⟩, HBW⟩
            · have q1 : ((j : Int) + 1 == n) = false := by simp; omega
              have HJ := Hd.mk hjn
              clear hjn
              go_wp2_with (first | (go_at_call 24; refine hcall.out.mono ?_; rw [E3.out]; unfold retT; dsimp only; rintro e4 w4 ⟨rfl, ht, hu⟩; have HT' := Hd.mk ht; have HBW := Hd.mk (HB'.out _ hu); clear ht hu))
              go_roundg g
              case measure => omega
              case rel => exact ⟨j + 1, by go_num, by omega, by omega, HR, ⟨by have := HT'.out; rw [E4.out] at this; exact this⟩, HBW⟩
        · rw [if_pos (by rw [her]; exact hw), her] at hr
          have E3 := Hd.mk (T1.out _ her hw)
          obtain ⟨hr1, hr2⟩ := Prod.mk.inj hr
          obtain ⟨hr3, hr4⟩ := Prod.mk.inj hr2
          have q1 : (er != 0) = true := by simpa using hw
          have q2 : (er != e) = false := by simp [hr4]
          have HW := Hd.mk hw
          clear hr T1 T2 T3 her hr1 hr2 hr3 hr4 hw
          go_wp2_with (first | (go_at_call 24; refine hcall.out.mono ?_; rw [E3.out]; unfold retT; dsimp only; rintro e4 w4 ⟨rfl, ht, hu⟩; have HT' := Hd.mk ht; have HBW := Hd.mk (HB'.out _ hu); clear ht hu))
          go_wp2_with fail
          go_at_call 32
          refine (enc1_calls u _ u0 u1).mono ?_
          rintro e5 w5 ⟨A5, c5, rfl, h5, h6⟩
          obtain ⟨lu, elu⟩ : ∃ m, (bytesN u).length = m := ⟨_, rfl⟩
          have ELU := Hd.mk elu
          rw [elu] at h5 ⊢
          clear elu
          have H5 := Hd.mk h5
          have HB5 := Hd.mk (below_step HBW.out h6)
          clear h5 h6
          go_wp2_with fail
          go_at_call 32
          refine (enc1_calls v _ v0 v1).mono ?_
          rintro e6 w6 ⟨A6, c6, rfl, h5, h6⟩
          obtain ⟨lv, elv⟩ : ∃ m, (bytesN v).length = m := ⟨_, rfl⟩
          have ELV := Hd.mk elv
          rw [elv] at h5 ⊢
          clear elv
          have H6 := Hd.mk (OB.bs2 h5 (bytesN_range v0 v1))
          have HB6 := Hd.mk (below_step HB5.out h6)
          have H56 := Hd.mk (OB.bs2 (H5.out.below h6) (bytesN_range u0 u1))
          clear h5 h6
          have hl1 := (encN_len 9 u).1
          have hl2 := (encN_len 9 v).1
          have hl3 := (encN_len 9 u).2
          have hl4 := (encN_len 9 v).2
          have hc6 := H6.out.hc
          rw [show (encN 9 u).length = lu from ELU.out] at hl1 hl3
          rw [show (encN 9 v).length = lv from ELV.out] at hl2 hl4
          have hz1 : ((lu : Int) == 0) = false := by simp; omega
          have hz2 : ((lv : Int) == 0) = false := by simp; omega
          by_cases huv : u = v
          · have huv' : (u == v) = true := by simp [huv]
            have HUV := Hd.mk huv
            clear huv
            go_wp2_with fail
            go_ret
            exact ⟨rfl, HB6.out⟩
          · have huv' : (u == v) = false := by simp [huv]
            have HUV := Hd.mk huv
            clear huv
            by_cases hll : lv < lu
            · go_wp2_with fail
              go_ret
              exact ⟨rfl, HB6.out⟩
            · go_wp2_with fail
              go_at_call 17
              refine (same_calls _ _ _ (bytesN u) _ _ _ ((bytesN v).take lu) _ H56.out (H6.out.pre lu (by omega))).mono ?_
              rw [decide_eq_false (fun h => HUV.out (enc_prefix u0 u1 v0 v1 (by rw [ELU.out]; exact h)))]
              rintro e7 w7 ⟨rfl, rfl⟩
              go_wp2_with fail
              go_ret
              exact ⟨rfl, HB6.out⟩
end Go.Proofs.Ytpjfepeedfbpfaa
