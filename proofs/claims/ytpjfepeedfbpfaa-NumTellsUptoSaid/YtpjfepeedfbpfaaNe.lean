/- num: the law NumEncodes: its walk. -/
import Derived.Test.YtpjfepeedfbpfaaOw
import Derived.Test.YtpjfepeedfbpfaaSz
import Derived.Test.YtpjfepeedfbpfaaLv
namespace Go.Proofs.Ytpjfepeedfbpfaa
open Go.RowKit Go.Proofs.YtpjfepeedfbpfaaW.PrintWords Go.Proofs.YtpjfepeedfbpfaaW.PrintLast Go.Proofs.YtpjfepeedfbpfaaW.PrintMore
set_option linter.unusedVariables false
set_option linter.unusedSimpArgs false

theorem eltU : Elt Try.prog 71 22 (.int .u64 0) 1 8 := ⟨Try.underlying71, by kernel_rfl, rfl, by decide, by decide⟩
theorem OB.below {w w' : World} {base : Nat} {v : Value} {xs : List Int} (h : OB w base v xs) (hb : Below w.heap.size w w') : OB w' base v xs := pw_own_below h hb
theorem below_app {w0 w w' : World} {base : Nat} {e : TypeId} {size n : Nat} {v : Value} {xs : List Value} (hb : Below w0.heap.size w0 w) (ho : w.ownsRow base e size v n xs) (hg : w.grownBy w' v.ownBlock) (hbase : w0.heap.size ≤ base) : Below w0.heap.size w0 w' :=
  hb.grown hg hb.size (fun k hk => Nat.le_trans hbase (own_base ho k hk))

theorem OB.bs1 {w : World} {base c : Nat} {A : Option Addr} {xs : List Int} (h : OB w base (.slice A xs.length c) xs) (hr : ∀ x ∈ xs, 0 ≤ x ∧ x ≤ 255) : Bs w A xs.length c xs := by
  obtain ⟨A', c', e, hb⟩ := OB.bs h hr
  cases e
  exact hb
theorem same_yes (A : Option Addr) (n c : Nat) (xs : List Int) (B : Option Addr) (m d : Nat) (w : World) (hx : Bs w A n c xs) (hy : Bs w B m d xs) :
    Calls Try.prog 17 #[.slice A n c, .slice B m d] w fun e w' => e = .returned (.bool true) ∧ w' = w :=
  (same_calls A n c xs B m d xs w hx hy).mono fun e w' ⟨h1, h2⟩ => ⟨by rw [h1]; simp, h2⟩

set_option maxHeartbeats 4000000 in
theorem walk_numEncodes (a0 : Option Addr) (n0 c0 : Nat) (z0 : List Int) (a1 : Option Addr) (n1 c1 : Nat) (z1 : List Int) (w : World) (h0 : IsRow .u64 w a0 n0 c0 z0) (y0 : n0 * 8 ≤ 140737488351232) (h1 : IsRow .u64 w a1 n1 c1 z1) (y1 : n1 * 8 ≤ 140737488351232) :
    Calls Try.prog 10 #[.slice a0 n0 c0, .slice a1 n1 c1] w fun e w' => e = .returned (.bool true) ∧ Below w.heap.size w w' := by
  obtain ⟨l, hl⟩ := h0.u64 y0
  obtain ⟨l1, hl1⟩ := h1.u64 y1
  have hnl := hl.C.1
  have HL := Hd.mk hl
  have HL1 := Hd.mk hl1
  have HO0 := Hd.mk (World.ownsRow_lit (base := w.heap.size) (e := 22) (size := 1) w #[] 0 (Nat.le_refl _) (Nat.zero_le _) rfl)
  clear h0 h1 hl hl1
  go_enter Try.func10, Try.ntmps10
  go_wp2_with (first
    | (at_builtin; refine wpList_app (v := .slice (some ⟨w.heap.size, 0, none⟩) 0 0) (n := 0) (xs := []) (m := n0) rfl (.tmp 12) (.tmp 13) _ rfl w.heap.size eltU rfl rfl HO0.out (Src.of_C (Kd.C_below HL.out.C ((Below.refl _ _).alloc (Nat.le_refl _) _))) (by omega) (by simp) ?_; intro v1 w1 h1 h2 h3 _; have HB1 := Hd.mk (below_app ((Below.refl w.heap.size w).alloc (Nat.le_refl _) _) HO0.out h2.out (Nat.le_refl _)); have hz1 := HB1.out.size)
    | (at_builtin; refine wpList_app (v := v1) (n := 0 + n0) (xs := [] ++ nums .u64 l) (m := 2) (news := nums .u64 [7, 7]) rfl (.tmp 14) (.tmp 15) _ rfl w.heap.size eltU rfl rfl (h1.out.alloc _) (Src.lit _ (nums .u64 [7, 7]) _ 2 rfl (nums_one _ _)) (by omega) (by simp; omega) ?_; intro v2 w2 h4 h5 h6 _; have h7 := h4.out; simp only [Nat.zero_add, List.nil_append] at h7; obtain ⟨g, cap, rfl, hg1, hg2⟩ := h7.form (by omega); have hcap := own_cap h7; have H7 := Hd.mk h7; clear h7))
  have h7 := H7.out
  have HG : Hd (w2.ownsRow w.heap.size 22 1 (.slice (some ⟨g, 0, none⟩) (n0 + 2) cap) (n0 + 2) (nums .u64 (l ++ [7, 7]))) := ⟨by rw [nums_append]; exact h7⟩
  have HB2 := Hd.mk (below_app (HB1.out.alloc hz1 _) (h1.out.alloc _) h5.out (Nat.le_refl _))
  clear h1 h2 h3 h4 h5 h6 h7
  go_wp2_with fail
  have HU2 : Hd (U64s w2 (some ⟨g, 0, none⟩) n0 cap l) := ⟨by
    obtain ⟨A3, c3, e3, h8, h9⟩ := own_C (xs := l ++ [7, 7]) (k := .u64) (by have := HG.out; rwa [show n0 + 2 = (l ++ [7, 7]).length by simp [hnl]] at this)
    cases e3
    refine ⟨?_, by omega, HL.out.hr, y0⟩
    have := C_pre h9 n0 (by simp; omega)
    rwa [List.take_left' hnl] at this⟩
  have hz2 := HB2.out.size
  go_at_call 32
  refine (encode_calls _ _ _ _ _ HU2.out).mono ?_
  rintro e w3 ⟨va, rfl, h1, h2⟩
  have HB3 := Hd.mk (below_step HB2.out h2)
  have hz3 := h2.size
  obtain ⟨Aa, ca, ea, _⟩ := OB.bs h1 (bytesL_range HL.out.hr)
  subst ea
  have HA := Hd.mk h1
  have HG3 := Hd.mk (pw_own_below HG.out h2)
  clear h1 h2
  go_wp2_with fail
  go_at_call 32
  refine (encode_calls _ _ _ _ _ (HL.out.below HB3.out)).mono ?_
  rintro e w4 ⟨vb, rfl, h1, h2⟩
  have HB4 := Hd.mk (below_step HB3.out h2)
  have hz4 := h2.size
  obtain ⟨Ab, cb, eb, _⟩ := OB.bs h1 (bytesL_range HL.out.hr)
  subst eb
  have HBb := Hd.mk h1
  have HA4 := Hd.mk (HA.out.below h2)
  have HG4 := Hd.mk (pw_own_below HG3.out h2)
  clear h1 h2
  go_wp2_with fail
  go_at_call 32
  refine (encode_calls _ _ _ _ _ (HL1.out.below HB4.out)).mono ?_
  rintro e w5 ⟨vc, rfl, h1, h2⟩
  have HB5 := Hd.mk (below_step HB4.out h2)
  have hz5 := h2.size
  obtain ⟨Ac, cc, ec, _⟩ := OB.bs h1 (bytesL_range HL1.out.hr)
  subst ec
  have HC := Hd.mk h1
  have HA5 := Hd.mk (HA4.out.below h2)
  have HBb5 := Hd.mk (HBb.out.below h2)
  have HG5 := Hd.mk (pw_own_below HG4.out h2)
  clear h1 h2
  go_wp2_with fail
  go_at_call 33
  refine (rencode_calls _ _ _ _ _ (HL.out.below HB5.out)).mono ?_
  rintro e w6 ⟨vd, rfl, h1, h2⟩
  have HB6 := Hd.mk (below_step HB5.out h2)
  have hz6 := h2.size
  obtain ⟨Ad, cd, ed, _⟩ := OB.bs h1 (bytesL_range HL.out.hr)
  subst ed
  have HD := Hd.mk h1
  have HA6 := Hd.mk (HA5.out.below h2)
  have HBb6 := Hd.mk (HBb5.out.below h2)
  have HC6 := Hd.mk (HC.out.below h2)
  have HG6 := Hd.mk (pw_own_below HG5.out h2)
  clear h1 h2
  go_wp2_with fail
  have HR := Hd.mk (bytesL_range HL.out.hr)
  have HR1 := Hd.mk (bytesL_range HL1.out.hr)
  go_at_call 17
  refine (same_yes _ _ _ (bytesL l) _ _ _ _ (HA6.out.bs1 HR.out) (HD.out.bs1 HR.out)).mono ?_
  rintro e w' ⟨rfl, rfl⟩
  go_wp2_with fail
  go_at_call 17
  refine (same_yes _ _ _ (bytesL l) _ _ _ _ (HBb6.out.bs1 HR.out) (HD.out.bs1 HR.out)).mono ?_
  rintro e w' ⟨rfl, rfl⟩
  go_wp2_with fail
  go_at_call 33
  refine (rencode_calls _ _ _ _ _ (HL1.out.below HB6.out)).mono ?_
  rintro e w7 ⟨ve, rfl, h1, h2⟩
  have HB7 := Hd.mk (below_step HB6.out h2)
  have hz7 := h2.size
  obtain ⟨Ae, ce, ee, _⟩ := OB.bs h1 HR1.out
  subst ee
  have HA7 := Hd.mk (HA6.out.below h2)
  have HBb7 := Hd.mk (HBb6.out.below h2)
  have HC7 := Hd.mk (HC6.out.below h2)
  have HG7 := Hd.mk (pw_own_below HG6.out h2)
  have HE := Hd.mk h1
  clear h1 h2
  go_wp2_with fail
  go_at_call 17
  refine (same_yes _ _ _ (bytesL l1) _ _ _ _ (HC7.out.bs1 HR1.out) (HE.out.bs1 HR1.out)).mono ?_
  rintro e w' ⟨rfl, rfl⟩
  go_wp2_with fail
  go_at_call 34
  refine (size_calls _ _ _ _ _ (HL.out.below HB7.out)).mono ?_
  rintro e w' ⟨rfl, rfl⟩
  have hGs : ∀ j, j < n0 + 2 → w'.cell? ⟨g, j, none⟩ = some (.int .u64 (gb (l ++ [7, 7]) j)) := fun j hj => by
    rw [World.ownsRow.cellAt HG7.out j (by omega)]
    have hl : j < (l ++ [7, 7]).length := by simp [hnl]; omega
    simp only [nums, List.getElem?_map, List.getElem?_eq_getElem hl, Option.map_some, gb, List.getD_eq_getElem?_getD, Option.getD_some]
  have hg7 := hGs n0 (by omega)
  rw [show gb (l ++ [7, 7]) n0 = 7 by simp [gb, List.getD_eq_getElem?_getD, ← hnl]] at hg7
  have HGS := Hd.mk hGs
  clear hGs
  go_wp2_with fail
  go_loopg [62] n0 (fun k y w'' => w'' = w' ∧ ∃ i : Nat, y = .int .i64 i ∧ i + k = n0)
  case atStart => exact ⟨rfl, 0, rfl, by omega⟩
  case round =>
    obtain ⟨rfl, i, rfl, hi⟩ := hrel
    rcases Nat.eq_zero_or_pos gk with rfl | hp
    · obtain rfl : n0 = i := by omega
      clear hg7 hi
      have hx := fun (W : World) (k : Nat) (h : (Value.slice Aa (bytesL l).length ca).ownBlock = some k ∨ (Value.slice Ab (bytesL l).length cb).ownBlock = some k ∨ (Value.slice Ac (bytesL l1).length cc).ownBlock = some k) => (show w.heap.size ≤ k by
        rcases h with h | h | h
        · have := own_base HA.out k h; omega
        · have := own_base HBb.out k h; omega
        · have := own_base HC.out k h; omega)
      have HX := Hd.mk hx
      have hb10 := bytesL_len l
      have hb11 := bytesL_len l1
      have hnl1 := HL1.out.C.1
      have HOWN := Hd.mk (own3_calls _ _ _ _ _ _ _ _ _ wr HA7.out HBb7.out HC7.out (by omega) (by omega) (by omega) (Dj.of HA.out HBb.out (Nat.le_refl _)) (Dj.of HA.out HC.out (by omega)) (Dj.of HBb.out HC.out (Nat.le_refl _)))
      clear hx hb10 hb11 hnl1
      go_wp2_with fail
      go_at_call 18
      refine HOWN.out.mono ?_
      rintro e w8 ⟨rfl, h1⟩
      have HB8 := Hd.mk (HB7.out.trans (h1.below HB7.out.size (fun k hk h => by have := HX.out wr k h; omega)))
      clear h1
      go_wp2_with fail
      go_at_call 29
      refine (lives_calls _).mono ?_
      rintro e w9 ⟨rfl, h1⟩
      have HB9 := Hd.mk (below_step HB8.out h1)
      clear h1
      go_wp2_with fail
      go_ret
      exact ⟨rfl, HB9.out⟩
    · obtain ⟨k, rfl⟩ : ∃ k, gk = k + 1 := ⟨gk - 1, by omega⟩
      obtain ⟨ad, hA, hc⟩ := at_byte (HL.out.below HB7.out).C i (by omega)
      subst hA
      have hg := HGS.out i (by omega)
      rw [show gb (l ++ [7, 7]) i = gb l i by simp only [gb, List.getD_eq_getElem?_getD]; rw [List.getElem?_append_left (by omega)]] at hg
      clear hg7
      go_wp2
      go_roundg k
      case measure => omega
      case rel => exact ⟨rfl, i + 1, by go_num, by omega⟩
end Go.Proofs.Ytpjfepeedfbpfaa
