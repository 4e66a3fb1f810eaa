/- num: the walk of NumBack. -/
import Derived.Test.YtpjfepeedfbpfaaNb
namespace Go.Proofs.Ytpjfepeedfbpfaa
open Go.RowKit Go.Proofs.YtpjfepeedfbpfaaW.PrintWords Go.Proofs.YtpjfepeedfbpfaaW.PrintLast Go.Proofs.YtpjfepeedfbpfaaW.PrintMore
set_option linter.unusedVariables false
set_option linter.unusedSimpArgs false
theorem below_st {a b c : World} (h : Below a.heap.size a b) (k : Below b.heap.size b c) : Below a.heap.size a c := h.trans (k.mono h.size)
theorem Bs.suf {w : World} {A : Option Addr} {n c m : Nat} {xs : List Int} (h : Bs w A n c xs) (hm : m ≤ n) : Bs w (A.map (·.add m)) (n - m) (c - m) (xs.drop m) := by
  refine ⟨Kd.C_of_reads (enc := Value.int .u8) (d := (0 : Int)) (h1 := fun _ => rfl) ⟨by rw [List.length_drop, h.len], by have := Kd.C_max h.C; omega, fun hn => ?_⟩, by have := h.hc; omega, fun x hx => h.hr x (List.mem_of_mem_drop hx)⟩
  obtain ⟨ad, e, _⟩ := at_byte h.C 0 (by omega)
  subst e
  refine ⟨_, rfl, fun j hj => ?_⟩
  obtain ⟨ad', e', hc'⟩ := at_byte h.C (m + j) (by omega)
  cases e'
  show w.cell? ((ad.add m).add j) = _
  rw [add_add, hc']
  simp [gb, List.getD_eq_getElem?_getD]
theorem u64_one (w : World) (x : Int) (h0 : 0 ≤ x) (h1 : x ≤ 18446744073709551615) : U64s (w.alloc (.cells #[.int .u64 x] 22)) (some ⟨w.heap.size, 0, none⟩) 1 1 [x] :=
  u64s_lit w [x] 1 rfl (by simp; omega) (by omega)
theorem own_form {w : World} {base : Nat} {e : TypeId} {size n : Nat} {v : Value} {xs : List Value} (h : w.ownsRow base e size v n xs) (hn : 0 < n) : ∃ A c, v = .slice A n c := by
  obtain ⟨g, cap, e, _, _⟩ := h.form hn
  exact ⟨_, _, e⟩
theorem back_slice {w : World} {base s q : Nat} {v : Value} {x : Int} {ys : List Int} (h : w.ownsRow base 5 1 v (s + q) (nums .u8 (leB s x) ++ nums .u8 ys)) (hq : ys.length = q) (hr : ∀ y ∈ ys, 0 ≤ y ∧ y ≤ 255) :
    ∃ A c, v = .slice A (s + q) c ∧ Bs w A (s + q) c (leB s x ++ ys) := by
  have hO := OB.snoc h (by rw [leB_len, hq])
  obtain ⟨A, c, e, hb⟩ := OB.bs hO (by
    intro z hz
    rcases List.mem_append.1 hz with hz | hz
    · exact leB_range s x z hz
    · exact hr z hz)
  rw [List.length_append, leB_len, hq] at e hb
  exact ⟨A, c, e, hb⟩
theorem below_app' {a w w' : World} {base : Nat} {e : TypeId} {size n : Nat} {v : Value} {xs : List Value} (hb : Below a.heap.size a w) (ho : w.ownsRow base e size v n xs) (hg : w.grownBy w' v.ownBlock) (hbase : a.heap.size ≤ base) (_ : base ≤ w.heap.size) : Below a.heap.size a w' :=
  hb.grown hg hb.size (fun k hk => Nat.le_trans hbase (own_base ho k hk))
set_option maxRecDepth 100000 in
set_option maxHeartbeats 4000000 in
theorem walk_numBack (A : Option Addr) (n c : Nat) (B : Option Addr) (q d : Nat) (w : World) (f0 : (∃ xs, U64s w A n c xs) ∧ n ≤ 1048576) (f1 : (∃ xs, Bs w B q d xs) ∧ q ≤ 1048576) :
    Calls Try.prog 11 #[.slice A n c, .slice B q d] w fun e w' => e = .returned (.bool true) ∧ Below w.heap.size w w' := by
  obtain ⟨⟨l, hU⟩, hn⟩ := f0
  obtain ⟨⟨ys, hB⟩, hq⟩ := f1
  have HU := Hd.mk hU
  have HB := Hd.mk hB
  have HUL := Hd.mk hU.C.1
  have HBL := Hd.mk hB.len
  have hcn := hU.hc
  clear hU hB
  go_enter Try.func11, Try.ntmps11
  go_wp2_with fail
  go_at_call 32
  refine (encode_calls _ _ _ _ _ HU.out).mono ?_
  rintro e w1 ⟨v1, rfl, h1, h2⟩
  have HO1 := Hd.mk h1
  have H1 := Hd.mk h2
  have HB1 := Hd.mk (HB.out.below h2)
  have hbl := bytesL_len l
  rw [HUL.out] at hbl
  obtain ⟨bl, ebl⟩ : ∃ bl, (bytesL l).length = bl := ⟨_, rfl⟩
  have HBLN := Hd.mk ebl
  have hO1 := h1
  rw [OB, ebl] at hO1
  rw [ebl] at hbl
  have HO1' := Hd.mk hO1
  have hs1 := h2.size
  clear h1 h2 ebl hO1
  go_wp2_with (first
    | (at_builtin; go_must (refine wpList_app (v := v1) (n := bl) (xs := nums .u8 (bytesL l)) (m := q) rfl _ _ _ rfl w.heap.size eltB rfl rfl HO1'.out (Src.of_C HB1.out.C) (by omega) hs1 ?_); intro v2 w2 f1 f2 f3 _))
  have hO2 : OB w2 w.heap.size v2 (bytesL l ++ ys) := OB.snoc f1.out (by rw [HBLN.out, HBL.out])
  have hrg : ∀ x ∈ bytesL l ++ ys, 0 ≤ x ∧ x ≤ 255 := by
    intro x hx
    rcases List.mem_append.1 hx with h | h
    · exact bytesL_range HU.out.hr x h
    · exact HB.out.hr x h
  obtain ⟨A2, c2, e2, hB2⟩ := OB.bs hO2 hrg
  obtain ⟨zs, hzs⟩ : ∃ zs, bytesL l ++ ys = zs := ⟨_, rfl⟩
  have hzl : zs.length = bl + q := by rw [← hzs, List.length_append, HBLN.out, HBL.out]
  rw [hzs, hzl] at e2 hB2
  subst e2
  have HZ := Hd.mk hzs
  have HB2 := Hd.mk hB2
  have H2 := Hd.mk (show Below w.heap.size w w2 from H1.out.grown f2.out hs1 (fun k hk => own_base HO1'.out k hk))
  have HU2 := Hd.mk (HU.out.below H2.out)
  have HY2 := Hd.mk (HB.out.below H2.out)
  clear f1 f2 f3 hO2 hrg hzs hB2 HO1 HO1' HB1 hzl
  go_loopg [6, 23] n (fun k a y w'' => ∃ j : Nat, y = .int .i64 j ∧ j + k = n ∧ Hd (a = .int .i64 ((bytesL (l.take j)).length : Int)) ∧ Hd (Below w2.heap.size w2 w''))
  case atStart => exact ⟨0, rfl, by omega, ⟨by rw [List.take_zero]; rfl⟩, ⟨Below.refl _ _⟩⟩
  case round =>
    obtain ⟨j, rfl, hj, HA, HW⟩ := hrel
    obtain ⟨t, ht⟩ : ∃ t, (bytesL (l.take j)).length = t := ⟨_, rfl⟩
    have HT := Hd.mk ht
    rw [ht] at HA
    obtain rfl := HA.out
    clear ht HA
    rcases Nat.eq_zero_or_pos gk with rfl | hp
    · obtain rfl : j = n := by omega
      have htl := HT.out
      rw [← HUL.out, List.take_length] at htl
      have HTL := Hd.mk htl
      have HUr := Hd.mk (HU2.out.below HW.out)
      have HWr := Hd.mk (below_st H2.out HW.out)
      clear htl
      go_wp2_with fail
      go_at_call 34
      refine (size_calls _ _ _ l _ HUr.out).mono ?_
      rw [HTL.out]
      rintro e w3 ⟨rfl, rfl⟩
      go_wp2_with fail
      go_at_call 29
      refine (lives_calls _).mono ?_
      rintro e w4 ⟨rfl, h4⟩
      have H4 := Hd.mk (below_st HWr.out h4)
      clear h4
      go_wp2
      go_ret
      exact ⟨rfl, H4.out⟩
    · obtain ⟨k, rfl⟩ : ∃ k, gk = k + 1 := ⟨gk - 1, by omega⟩
      have hjn : j < n := by omega
      have hlt : j < l.length := by rw [HUL.out]; exact hjn
      have hUr := HU2.out.below HW.out
      obtain ⟨ad, ea, hcell⟩ := at_byte hUr.C j hjn
      subst ea
      obtain ⟨x, hx⟩ : ∃ x, gb l j = x := ⟨_, rfl⟩
      have hxr := gb_range64 HU.out.hr j
      have hdr := bytesL_drop l j hlt ys
      have htk := bytesL_take l j hlt
      rw [hx] at hcell hxr hdr htk
      obtain ⟨x0, x1⟩ := hxr
      rw [HZ.out, HT.out] at hdr
      have hrd := rdN_enc x (bytesL (l.drop (j + 1)) ++ ys) x0 x1
      rw [← hdr] at hrd
      have hlen := encN_len 9 x
      obtain ⟨m, hm⟩ : ∃ m, (bytesN x).length = m := ⟨_, rfl⟩
      have hlen' : 1 ≤ m ∧ m ≤ 10 := by rw [← hm]; exact hlen
      rw [hm] at hrd
      have hdl := congrArg List.length hdr
      rw [List.length_drop, HB2.out.len, List.length_append, hm] at hdl
      have htm : t + m ≤ bl + q := by omega
      have HRD := Hd.mk hrd
      have HTK : Hd ((bytesL (l.take (j + 1))).length = t + m) := ⟨by rw [htk, List.length_append, HT.out, hm]⟩
      have HSZ : Hd ((bytesL [x]).length = m) := ⟨by rw [← hm]; simp [bytesL]⟩
      have HBr := Hd.mk (HB2.out.below HW.out)
      have HSuf := Hd.mk (HBr.out.suf (m := t) (by omega))
      have hc2 := HB2.out.hc
      obtain ⟨m1, m10⟩ := hlen'
      clear hrd hdl hlen hm htk hdr hx hlt hUr
      have hc2t : ¬ c2 = t := by omega
      go_wp2_with fail
      go_at_call 30
      refine (decode_calls _ _ _ (zs.drop t) _ HSuf.out.C HSuf.out.hc HSuf.out.hr).mono ?_
      rw [HRD.out]
      dsimp only [ret3]
      rintro e w3 ⟨rfl, h3⟩
      have HW3 := Hd.mk (below_st HW.out h3)
      clear h3 HSuf HBr hcell
      go_wp2_with fail
      go_at_call 34
      refine (size_calls _ 1 1 [x] _ (u64_one w3 x x0 x1)).mono ?_
      rw [HSZ.out]
      rintro e w4 ⟨rfl, rfl⟩
      have HW4 := Hd.mk (HW3.out.alloc HW3.out.size (.cells #[.int .u64 x] 22))
      obtain ⟨w4, hw4⟩ : ∃ w4, w3.alloc (.cells #[.int .u64 x] 22) = w4 := ⟨_, rfl⟩
      rw [hw4] at HW4 ⊢
      clear hw4 HW3
      have m1' : ¬ ((m : Int) < 1) := by omega
      have m10' : (m : Int) ≤ 10 := by omega
      go_wp2_with fail
      go_loopg [12] 8 (fun g y w'' => ∃ s : Nat, y = .int .i64 s ∧ s + g = 9 ∧ 1 ≤ s ∧ Hd (Below w2.heap.size w2 w''))
      case atStart => exact ⟨1, rfl, by omega, by omega, HW4⟩
      case round =>
        obtain ⟨s, rfl, hs, hs1', HWr⟩ := hrel
        by_cases hs8 : s ≤ 8
        · obtain ⟨g, rfl⟩ : ∃ g, gk = g + 1 := ⟨gk - 1, by omega⟩
          go_wp2_with fail
          go_at_call 15
          refine (fixed_calls x s _ x0 x1 (by omega) (by omega)).mono ?_
          rintro e w5 ⟨u, rfl, h5, h6⟩
          have HW5 := Hd.mk (below_st HWr.out h6)
          by_cases hbig : s < 8 ∧ 256 ^ s ≤ x
          · have hf : fixS x s = ([], 10) := by unfold fixS; rw [if_neg (by omega), Int.toNat_natCast, if_pos (by omega)]
            rw [hf]
            have hpos : 0 < x / 2 ^ (8 * s) := by
              rw [pow8]
              have hp : (0 : Int) < 256 ^ s := Int.pow_pos (by decide)
              have := Int.le_ediv_of_mul_le hp (show 1 * 256 ^ s ≤ x by omega)
              omega
            have hs7 := hbig.1
            clear hf hbig h5 h6
            go_wp2_with fail
            go_roundg g
            case measure => omega
            case rel => exact ⟨s + 1, by go_num, by omega, by omega, HW5⟩
          · have hsm : x < 256 ^ s := by
              by_cases h7 : s < 8
              · omega
              · obtain rfl : s = 8 := by omega
                have : (256 : Int) ^ 8 = 18446744073709551616 := by decide
                omega
            have hf : fixS x s = (leB s x, 0) := by unfold fixS; rw [if_neg (by omega), Int.toNat_natCast, if_neg (by omega)]
            rw [hf] at h5 ⊢
            have hneg : ¬ 0 < x / 2 ^ (8 * s) := by
              rw [pow8, Int.ediv_eq_zero_of_lt x0 hsm]
              omega
            have HSM := Hd.mk hsm
            have hO5 := h5
            rw [OB, leB_len] at hO5
            have HO5 := Hd.mk hO5
            have hb5 := h6.size
            have HY5o := Hd.mk (HY2.out.below HW5.out)
            have hbw := HWr.out.size
            clear hf hbig h5 h6 hsm hO5
            have HUB := Hd.mk (unf_back s x ys (by omega) hs8 x0 HSM.out)
            have hw2s : w2.heap.size ≤ wr.heap.size := hbw
            by_cases hs7 : s < 8
            all_goals
              go_wp2_with (first
                | (at_builtin; go_must (refine wpList_app (v := u) (n := s) (xs := nums .u8 (leB s x)) (m := q) rfl _ _ _ rfl wr.heap.size eltB rfl rfl HO5.out (Src.of_C HY5o.out.C) (by omega) hb5 ?_); intro v6 w6 f1 f2 f3 _; have HX6 := Hd.mk (back_slice f1.out HBL.out HY5o.out.hr); have HW6 := Hd.mk (below_app' HW5.out HO5.out f2.out hw2s hb5); obtain ⟨A6, c6, e6, HB6⟩ := HX6.out; subst e6; clear f1 f2 f3 HX6))
              go_at_call 20
              refine (unfix_calls _ (s + q) _ (leB s x ++ ys) s _ HB6 (by omega) (by omega)).mono ?_
              rw [HUB.out]
              rintro e w7 ⟨rfl, rfl⟩
              have HW7 := HW6
              clear HB6 HW6
              obtain ⟨uA, uc, eu⟩ := own_form HO5.out (by omega)
              subst eu
              go_wp2_with fail
              go_roundg g
              case measure => omega
              case rel => exact ⟨s + 1, by go_num, by omega, by omega, HW7⟩
        · have hs9 : ¬ ((s : Int) ≤ 8) := by omega
          go_wp2_with fail
          go_roundg k
          case measure => omega
          case rel => exact ⟨j + 1, by go_num, by omega, ⟨by rw [HTK.out]; go_num⟩, HWr⟩
end Go.Proofs.Ytpjfepeedfbpfaa
