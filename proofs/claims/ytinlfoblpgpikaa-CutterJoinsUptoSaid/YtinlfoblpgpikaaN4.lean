/- num: writing numbers: lay, Encode, Size; the reference's Bytes, Encode. -/
import Derived.Test.YtinlfoblpgpikaaBs
import Derived.WalkSpells
import Derived.Test.YtinlfoblpgpikaaN1
namespace Go.Proofs.Ytinlfoblpgpikaa
open Go.RowKit Go.Proofs.YtinlfoblpgpikaaW.PrintWords Go.Proofs.YtinlfoblpgpikaaW.PrintLast Go.Proofs.YtinlfoblpgpikaaW.PrintMore
set_option linter.unusedVariables false
set_option linter.unusedSimpArgs false

/-- v is a slice of bytes of the call's own: xs. -/
abbrev OB (w : World) (base : Nat) (v : Value) (xs : List Int) : Prop := w.ownsRow base 5 1 v xs.length (nums .u8 xs)
theorem OB.snoc {w : World} {base : Nat} {v : Value} {xs ys : List Int} {n : Nat} (h : w.ownsRow base 5 1 v n (nums .u8 xs ++ nums .u8 ys)) (hn : n = xs.length + ys.length) : OB w base v (xs ++ ys) := by
  rw [OB, nums_append, List.length_append, ← hn]
  exact h

theorem own_C {w : World} {base : Nat} {e : TypeId} {k : IntKind} {v : Value} {xs : List Int} (h : w.ownsRow base e 1 v xs.length (nums k xs)) : ∃ A c, v = .slice A xs.length c ∧ xs.length ≤ c ∧ (Kd.int k).C w A xs.length xs := by
  obtain ⟨A, c, rfl, hr⟩ := own_reads h
  exact ⟨A, c, rfl, own_cap h, Kd.C_of_reads (d := (0 : Int)) (h1 := fun _ => rfl) hr⟩
/-! ### plain -/
/-- A number's shortest form, with at most so many further bytes. -/
def encN : Nat → Int → List Int
  | 0, x => [x % 256]
  | k + 1, x => if 127 < x then (x % 128 + 128) :: encN k (x / 128) else [x]
def bytesN (x : Int) : List Int := encN 9 x
def bytesL (l : List Int) : List Int := l.flatMap bytesN
theorem encN_len : ∀ (k : Nat) (x : Int), 1 ≤ (encN k x).length ∧ (encN k x).length ≤ k + 1
  | 0, x => by simp [encN]
  | k + 1, x => by
    have := encN_len k (x / 128)
    unfold encN
    split
    · simp only [List.length_cons]; omega
    · simp
theorem or128 (x : Int) (h0 : 0 ≤ x) (h1 : x ≤ 255) : bits .or .u8 x 128 = x % 128 + 128 := by
  have h : ∀ n : Nat, n < 256 → bits .or .u8 (n : Int) 128 = (n : Int) % 128 + 128 := by decide +kernel
  have := h x.toNat (by omega)
  rwa [Int.toNat_of_nonneg h0] at this

set_option maxHeartbeats 1000000 in
theorem lay_calls (base : Nat) (v : Value) (xs : List Int) (x : Int) (w : World) (hown : OB w base v xs) (hbase : base ≤ w.heap.size) (h0 : 0 ≤ x) (h1 : x ≤ 18446744073709551615) (hl : xs.length ≤ 200000000000000) :
    Calls Try.prog 63 #[v, .int .u64 x] w fun e w' => ∃ v', e = .returned v' ∧ OB w' base v' (xs ++ bytesN x) ∧ Upd (fun k => some k = v.ownBlock) w w' ∧ (v'.ownBlock = v.ownBlock ∨ ∃ k, v'.ownBlock = some k ∧ w.heap.size ≤ k) := by
  have HL := Hd.mk hl
  have HO := Hd.mk hown
  clear hl hown
  go_enter Try.func63, Try.ntmps63
  go_wp2
  go_loopg [0, 1] 9 (fun k u y w' => ∃ (ys : List Int) (z : Int), y = .int .u64 z ∧ k ≤ 9 ∧ 0 ≤ z ∧ z < 2 * 128 ^ k ∧ Hd (ys ++ encN k z = xs ++ bytesN x) ∧ Hd (ys.length + k ≤ xs.length + 9) ∧ Hd (OB w' base u ys) ∧ Hd (Upd (fun k => some k = v.ownBlock) w w') ∧ Hd (u.ownBlock = v.ownBlock ∨ ∃ k, u.ownBlock = some k ∧ w.heap.size ≤ k))
  case atStart => exact ⟨xs, x, rfl, by omega, h0, by omega, ⟨rfl⟩, ⟨Nat.le_refl _⟩, HO, ⟨Upd.refl _ _⟩, ⟨.inl rfl⟩⟩
  case round =>
    obtain ⟨ys, z, rfl, hk, z0, z1, HE, HN, HO, HU, HB⟩ := hrel
    have hob : ∀ k, u0.ownBlock = some k → some k = v.ownBlock ∨ w.heap.size ≤ k := fun k hk => by
      rcases HB.out with h | ⟨j, h, hj⟩
      · exact .inl (by rw [← h, hk])
      · rw [hk] at h; cases h; exact .inr hj
    have HOB := Hd.mk hob
    have hws := HU.out.size
    have hlen := HN.out
    have hxl := HL.out
    clear hob
    by_cases hz : 127 < z
    · obtain ⟨k, rfl⟩ : ∃ k, gk = k + 1 := by
        rcases gk with _ | k
        · simp at z1; omega
        · exact ⟨k, rfl⟩
      have hz9 : z ≤ 18446744073709551615 := by
        have := pow_le9 (show k + 1 ≤ 9 from hk)
        omega
      have E := Hd.mk (or128 (z % 256) (by omega) (by omega))
      have hE := HE.out
      rw [encN, if_pos hz] at hE
      have HE' := Hd.mk hE
      clear hE HE
      go_wp2_with (first | (at_builtin; refine wpList_app (v := u0) (n := ys.length) (xs := nums .u8 ys) rfl _ _ _ rfl base eltB rfl rfl (HO.out.alloc _) (Src.one _ _ _ rfl) (by omega) (by simp; omega) ?_; intro v1 w1 h1 h2 h3 _))
      go_roundg k
      case measure => omega
      case rel =>
        refine ⟨ys ++ [z % 128 + 128], z / 128, rfl, by omega, by omega, ?_, ⟨by rw [← HE'.out, List.append_assoc]; rfl⟩, ⟨by simp; omega⟩, ⟨?_⟩, ⟨?_⟩, ⟨?_⟩⟩
        · rw [Int.pow_succ] at z1
          omega
        · refine OB.snoc (n := ys.length + 1) ?_ rfl
          have := h1.out
          rw [E.out] at this
          rw [show z % 256 % 128 = z % 128 by omega] at this
          exact this
        · exact Upd.of_app (HU.out.alloc _) h2.out HOB.out
        · rcases h3.out.block with h | h
          · rw [h]; exact HB.out
          · exact .inr ⟨_, h, by simp; omega⟩
    · have hE : encN gk z = [z] := by
        rcases gk with _ | k
        · simp at z1
          simp [encN]
          omega
        · rw [encN, if_neg hz]
      have hE' := HE.out
      rw [hE] at hE'
      have HE' := Hd.mk hE'
      clear hE hE' HE
      go_wp2_with (first | (at_builtin; refine wpList_app (v := u0) (n := ys.length) (xs := nums .u8 ys) rfl _ _ _ rfl base eltB rfl rfl (HO.out.alloc _) (Src.one _ _ _ rfl) (by omega) (by simp; omega) ?_; intro v1 w1 h1 h2 h3 _))
      go_ret
      refine ⟨v1, rfl, ?_, Upd.of_app (HU.out.alloc _) h2.out HOB.out, ?_⟩
      · rw [← HE'.out]
        refine OB.snoc (n := ys.length + 1) ?_ rfl
        exact h1.out
      · rcases h3.out.block with h | h
        · rw [h]; exact HB.out
        · exact .inr ⟨_, h, by simp; omega⟩

set_option maxHeartbeats 1000000 in
theorem bytes_calls (x : Int) (w : World) (h0 : 0 ≤ x) (h1 : x ≤ 18446744073709551615) :
    Calls Try.prog 64 #[.int .u64 x] w fun e w' => ∃ v', e = .returned v' ∧ OB w' w.heap.size v' (bytesN x) ∧ Below w.heap.size w w' := by
  go_enter Try.func64, Try.ntmps64
  go_wp2
  go_loopg [0, 3] 9 (fun k y u w' => ∃ (ys : List Int) (z : Int), y = .int .u64 z ∧ k ≤ 9 ∧ 0 ≤ z ∧ z < 2 * 128 ^ k ∧ Hd (ys ++ encN k z = bytesN x) ∧ Hd (ys.length + k ≤ 9) ∧ Hd (OB w' w.heap.size u ys) ∧ Hd (Below w.heap.size w w'))
  case atStart => exact ⟨[], x, rfl, by omega, h0, by omega, ⟨rfl⟩, ⟨Nat.le_refl _⟩, ⟨own_nil _ _ _ _⟩, ⟨Below.refl _ _⟩⟩
  case round =>
    obtain ⟨ys, z, rfl, hk, z0, z1, HE, HN, HO, HU⟩ := hrel
    have hob : ∀ k, u3.ownBlock = some k → w.heap.size ≤ k := own_base HO.out
    have HOB := Hd.mk hob
    have hws := HU.out.size
    have hlen := HN.out
    clear hob
    by_cases hz : 127 < z
    · obtain ⟨k, rfl⟩ : ∃ k, gk = k + 1 := by
        rcases gk with _ | k
        · simp at z1; omega
        · exact ⟨k, rfl⟩
      have hz9 : z ≤ 18446744073709551615 := by
        have := pow_le9 (show k + 1 ≤ 9 from hk)
        omega
      have hE := HE.out
      rw [encN, if_pos hz] at hE
      have HE' := Hd.mk hE
      clear hE HE
      go_wp2_with (first | (at_builtin; refine wpList_app (v := u3) (n := ys.length) (xs := nums .u8 ys) rfl _ _ _ rfl w.heap.size eltB rfl rfl (HO.out.alloc _) (Src.one _ _ _ rfl) (by omega) (by simp; omega) ?_; intro v1 w1 h1 h2 h3 _))
      go_roundg k
      case measure => omega
      case rel =>
        refine ⟨ys ++ [z % 128 + 128], z / 128, rfl, by omega, by omega, ?_, ⟨by rw [← HE'.out, List.append_assoc]; rfl⟩, ⟨by simp; omega⟩, ⟨?_⟩, ⟨?_⟩⟩
        · rw [Int.pow_succ] at z1
          omega
        · exact OB.snoc (n := ys.length + 1) h1.out rfl
        · exact (HU.out.alloc hws _).grown h2.out (by simp; omega) HOB.out
    · have hE : encN gk z = [z] := by
        rcases gk with _ | k
        · simp at z1
          simp [encN]
          omega
        · rw [encN, if_neg hz]
      have hE' := HE.out
      rw [hE] at hE'
      have HE' := Hd.mk hE'
      clear hE hE' HE
      go_wp2_with (first | (at_builtin; refine wpList_app (v := u3) (n := ys.length) (xs := nums .u8 ys) rfl _ _ _ rfl w.heap.size eltB rfl rfl (HO.out.alloc _) (Src.one _ _ _ rfl) (by omega) (by simp; omega) ?_; intro v1 w1 h1 h2 h3 _))
      go_ret
      refine ⟨v1, rfl, ?_, (HU.out.alloc hws _).grown h2.out (by simp; omega) HOB.out⟩
      rw [← HE'.out]
      exact OB.snoc (n := ys.length + 1) h1.out rfl

theorem bytesL_len : ∀ l : List Int, (bytesL l).length ≤ 10 * l.length
  | [] => by simp [bytesL]
  | x :: l => by
    have := bytesL_len l
    have h := (encN_len 9 x).2
    simp only [bytesL, bytesN, List.flatMap_cons, List.length_append, List.length_cons] at this ⊢
    omega
theorem bytesL_snoc (l : List Int) (j : Nat) (h : j < l.length) : bytesL (l.take (j + 1)) = bytesL (l.take j) ++ bytesN (gb l j) := by
  rw [take_snoc' l j h]
  simp [bytesL]
/-- A slice of uint64 that came in. -/
structure U64s (w : World) (A : Option Addr) (n c : Nat) (l : List Int) : Prop where
  C : (Kd.int .u64).C w A n l
  hc : n ≤ c
  hr : ∀ x ∈ l, 0 ≤ x ∧ x ≤ 18446744073709551615
  hn : n * 8 ≤ 140737488351232
theorem U64s.below {w w' : World} {A : Option Addr} {n c : Nat} {l : List Int} (h : U64s w A n c l) (hb : Below w.heap.size w w') : U64s w' A n c l := ⟨Kd.C_below h.C hb, h.hc, h.hr, h.hn⟩
theorem gb_range64 {xs : List Int} (h : ∀ x ∈ xs, 0 ≤ x ∧ x ≤ 18446744073709551615) (k : Nat) : 0 ≤ gb xs k ∧ gb xs k ≤ 18446744073709551615 := by
  unfold gb
  by_cases hk : k < xs.length
  · simpa [hk] using h xs[k] (List.getElem_mem hk)
  · simp [List.getElem?_eq_none (by omega : xs.length ≤ k)]

set_option maxHeartbeats 1000000 in
theorem encode_calls (A : Option Addr) (n c : Nat) (l : List Int) (w : World) (hU : U64s w A n c l) :
    Calls Try.prog 50 #[.slice A n c] w fun e w' => ∃ v', e = .returned v' ∧ OB w' w.heap.size v' (bytesL l) ∧ Below w.heap.size w w' := by
  have hn := hU.hn
  have hcap := hU.hc
  have HU := Hd.mk hU
  clear hU
  go_enter Try.func50, Try.ntmps50
  go_wp2
  go_loopg [3, 8] n (fun k u y w' => ∃ j : Nat, y = .int .i64 j ∧ j + k = n ∧ Hd (OB w' w.heap.size u (bytesL (l.take j))) ∧ Hd (Below w.heap.size w w'))
  case atStart => exact ⟨0, rfl, by omega, ⟨own_nil _ _ _ _⟩, ⟨Below.refl _ _⟩⟩
  case round =>
    obtain ⟨j, rfl, hj, HO, HW⟩ := hrel
    rcases Nat.eq_zero_or_pos gk with rfl | hp
    · go_wp2
      go_ret
      refine ⟨u3, rfl, ?_, HW.out⟩
      have := HO.out
      rwa [List.take_of_length_le (by have := HU.out.C.1; omega)] at this
    · obtain ⟨k, rfl⟩ : ∃ k, gk = k + 1 := ⟨gk - 1, by omega⟩
      have hl : j < l.length := by have := HU.out.C.1; omega
      obtain ⟨ad, hA, hcell⟩ := at_byte (Kd.C_below HU.out.C HW.out) j (by omega)
      subst hA
      obtain ⟨x0, x1⟩ := gb_range64 HU.out.hr j
      have HS := Hd.mk (bytesL_snoc l j hl)
      have hlen := bytesL_len (l.take j)
      rw [List.length_take, Nat.min_eq_left (by omega)] at hlen
      have HL := Hd.mk hlen
      obtain ⟨x, ex⟩ : ∃ x, gb l j = x := ⟨_, rfl⟩
      rw [ex] at hcell x0 x1 HS
      have hcall := Hd.mk (lay_calls w.heap.size u3 (bytesL (l.take j)) x wr HO.out HW.out.size x0 x1 (by omega))
      clear ex hlen
      go_wp2_with (first
        | (go_at_call 63; refine hcall.out.mono ?_; rintro e w' ⟨v1, rfl, h1, h2, h3⟩; have H1 := Hd.mk h1; have H2 := Hd.mk h2; clear h1 h2 h3))
      go_roundg k
      case measure => omega
      case rel =>
        refine ⟨j + 1, by go_num, by omega, ⟨by rw [HS.out]; exact H1.out⟩, ⟨HW.out.trans (H2.out.below HW.out.size (fun k hk e => ?_))⟩⟩
        have := own_base HO.out k e.symm
        omega

set_option maxHeartbeats 1000000 in
theorem rencode_calls (A : Option Addr) (n c : Nat) (l : List Int) (w : World) (hU : U64s w A n c l) :
    Calls Try.prog 52 #[.slice A n c] w fun e w' => ∃ v', e = .returned v' ∧ OB w' w.heap.size v' (bytesL l) ∧ Below w.heap.size w w' := by
  have hn := hU.hn
  have hcap := hU.hc
  have HU := Hd.mk hU
  clear hU
  go_enter Try.func52, Try.ntmps52
  go_wp2
  go_loopg [3, 8] n (fun k u y w' => ∃ j : Nat, y = .int .i64 j ∧ j + k = n ∧ Hd (OB w' w.heap.size u (bytesL (l.take j))) ∧ Hd (Below w.heap.size w w'))
  case atStart => exact ⟨0, rfl, by omega, ⟨own_nil _ _ _ _⟩, ⟨Below.refl _ _⟩⟩
  case round =>
    obtain ⟨j, rfl, hj, HO, HW⟩ := hrel
    rcases Nat.eq_zero_or_pos gk with rfl | hp
    · go_wp2
      go_ret
      refine ⟨u3, rfl, ?_, HW.out⟩
      have := HO.out
      rwa [List.take_of_length_le (by have := HU.out.C.1; omega)] at this
    · obtain ⟨k, rfl⟩ : ∃ k, gk = k + 1 := ⟨gk - 1, by omega⟩
      have hl : j < l.length := by have := HU.out.C.1; omega
      obtain ⟨ad, hA, hcell⟩ := at_byte (Kd.C_below HU.out.C HW.out) j (by omega)
      subst hA
      obtain ⟨x0, x1⟩ := gb_range64 HU.out.hr j
      have HS := Hd.mk (bytesL_snoc l j hl)
      have hlen := bytesL_len (l.take j)
      rw [List.length_take, Nat.min_eq_left (by omega)] at hlen
      have HL := Hd.mk hlen
      obtain ⟨x, ex⟩ : ∃ x, gb l j = x := ⟨_, rfl⟩
      rw [ex] at hcell x0 x1 HS
      have hx10 : (bytesN x).length ≤ 10 := (encN_len 9 x).2
      have hws := HW.out.size
      have hcall := Hd.mk (bytes_calls x wr x0 x1)
      clear ex hlen
      go_wp2_with (first
        | (go_at_call 64; refine hcall.out.mono ?_; rintro e w' ⟨v1, rfl, h1, h2⟩; obtain ⟨A1, c1, e1, _, hC1⟩ := own_C h1; subst e1; have H1 := Hd.mk h1; have HC1 := Hd.mk hC1; have H2 := Hd.mk h2; have hz2 := h2.size; clear h1 h2 hC1)
        | (at_builtin; go_must (refine wpList_app (v := u3) (n := (bytesL (l.take j)).length) (m := (bytesN x).length) (xs := nums .u8 (bytesL (l.take j))) rfl _ _ _ rfl w.heap.size eltB rfl rfl (pw_own_below HO.out H2.out) (Src.of_C HC1.out) (by have := HL.out; omega) (by omega) ?_); intro v2 w2 h1 h2 h3 _))
      go_roundg k
      case measure => omega
      case rel =>
        refine ⟨j + 1, by go_num, by omega, ⟨?_⟩, ⟨(below_step HW.out H2.out).grown h2.out (by omega) (own_base HO.out)⟩⟩
        rw [HS.out]
        exact OB.snoc h1.out rfl
end Go.Proofs.Ytinlfoblpgpikaa
