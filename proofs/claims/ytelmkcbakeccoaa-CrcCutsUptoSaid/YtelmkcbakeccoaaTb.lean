/- crc: a byte turned; the walk of CrcTurnsBack. -/
import Derived.Test.YtelmkcbakeccoaaTu
import Derived.Deep.AppendLies
namespace Go.Proofs.Ytelmkcbakeccoaa
open Go.RowKit Go.Proofs.YtelmkcbakeccoaaW.PrintWords Go.Proofs.YtelmkcbakeccoaaW.PrintLast Go.Proofs.YtelmkcbakeccoaaW.PrintMore
set_option linter.unusedVariables false
set_option linter.unusedSimpArgs false
theorem runB_lin : ∀ (xs : List Int) (a b : R), runB (a ^^^ b) xs = runB a xs ^^^ Sn (8 * xs.length) b
  | [], a, b => rfl
  | x :: xs, a, b => by
    simp only [runB, List.length_cons]
    rw [BitVec.xor_assoc, BitVec.xor_comm b, ← BitVec.xor_assoc, Sn_xor, runB_lin xs, ← Sn_add, show 8 * (xs.length + 1) = 8 * xs.length + 8 by omega]
theorem byte_xor (x m : Int) (x0 : 0 ≤ x) (x1 : x ≤ 255) (m0 : 0 ≤ m) (m1 : m ≤ 255) : BitVec.ofInt 32 (bits .xor .u8 x m) = BitVec.ofInt 32 x ^^^ BitVec.ofInt 32 m ∧ 0 ≤ bits .xor .u8 x m ∧ bits .xor .u8 x m ≤ 255 := by
  obtain ⟨a, rfl⟩ : ∃ a : Nat, x = a := ⟨x.toNat, by omega⟩
  obtain ⟨b, rfl⟩ : ∃ b : Nat, m = b := ⟨m.toNat, by omega⟩
  rw [u8_xor_nat a b (by omega) (by omega)]
  have hl : a ^^^ b < 2 ^ 8 := Nat.xor_lt_two_pow (by omega) (by omega)
  refine ⟨?_, by omega, by omega⟩
  rw [BitVec.ofInt_natCast, BitVec.ofInt_natCast, BitVec.ofInt_natCast]
  apply BitVec.eq_of_toNat_eq
  rw [BitVec.toNat_xor, BitVec.toNat_ofNat, BitVec.toNat_ofNat, BitVec.toNat_ofNat, Nat.mod_eq_of_lt (by omega), Nat.mod_eq_of_lt (by omega), Nat.mod_eq_of_lt (by omega)]
theorem runB_set (r : R) (xs : List Int) (i : Nat) (m : Int) (hr : ∀ x ∈ xs, 0 ≤ x ∧ x ≤ 255) (hi : i < xs.length) (m0 : 0 ≤ m) (m1 : m ≤ 255) :
    runB r (xs.set i (bits .xor .u8 (gb xs i) m)) = runB r xs ^^^ Sn (8 * (xs.length - 1 - i)) (runB 0#32 [m]) := by
  have hg : gb xs i = xs[i] := by simp [gb, hi]
  have e : xs = xs.take i ++ xs[i] :: xs.drop (i + 1) := by rw [List.getElem_cons_drop, List.take_append_drop]
  have es : xs.set i (bits .xor .u8 (gb xs i) m) = xs.take i ++ bits .xor .u8 (gb xs i) m :: xs.drop (i + 1) := List.set_eq_take_append_cons_drop.trans (by rw [if_pos hi])
  obtain ⟨hx, _, _⟩ := byte_xor (gb xs i) m (gb_range hr i).1 (gb_range hr i).2 m0 m1
  rw [es, runB_append, runB, hx, ← BitVec.xor_assoc, Sn_xor, runB_lin]
  conv => rhs; rw [e, runB_append, runB]
  rw [hg, ← e]
  simp only [List.length_drop, runB, BitVec.zero_xor]
  congr 3
  omega
theorem set_range {xs : List Int} (hr : ∀ x ∈ xs, 0 ≤ x ∧ x ≤ 255) (i : Nat) (v : Int) (h0 : 0 ≤ v) (h1 : v ≤ 255) : ∀ x ∈ xs.set i v, 0 ≤ x ∧ x ≤ 255 := by
  intro x hx
  rcases List.mem_or_eq_of_mem_set hx with h | h
  · exact hr x h
  · omega
theorem wpList_copy1 {w : World} {ops : Array Oper} {rest : List Oper} {o : Oper} {a : Act} {Q : Exit → Act → World → Prop} (hgd : o.guard = none) (s x : Operand)
    (ho : o.op = .call { callee := .builtin .append, args := #[s, x], argTypes := #[23, 23] })
    {A : Option Addr} {m c : Nat} {xs : List Int} (hs : a.eval s = .slice none 0 0) (hx : a.eval x = .slice A m c) (hB : Bs w A m c xs) (hfit : m ≤ 140737488351232) (hm : 0 < m)
    (h : ∀ g c' w', w.heap.size ≤ g → m ≤ c' → Hd (OB w' w.heap.size (.slice (some ⟨g, 0, none⟩) m c') xs) → Hd (Below w.heap.size w w') → wpList Try.prog ops Q rest (a.put o.dst (.slice (some ⟨g, 0, none⟩) m c')) w') :
    wpList Try.prog ops Q (o :: rest) a w := by
  refine wpList_copy hgd s x ho hs hx hB hfit ?_
  intro A' c' w' h1 h2 h3
  have hl := hB.len
  have ho1 := h1.out
  rw [OB, hl] at ho1
  obtain ⟨g, cap, e, hg, _⟩ := World.ownsRow.form ho1 hm
  cases e
  exact h g c' w' hg h2.out.hc h1 h3
set_option maxHeartbeats 2000000 in
theorem walk_crcTurnsBack (a0 : Option Addr) (n0 c0 : Nat) (z0 : List Int) (a1 a2 : Int) (w : World) (h0 : IsRow .u8 w a0 n0 c0 z0) (y0 : n0 * 1 ≤ 140737488351232) (w1 : (Lit.int .u64 a1).wf = true) (w2 : (Lit.int .u8 a2).wf = true) :
    Calls Try.prog 16 #[.slice a0 n0 c0, .int .u64 a1, .int .u8 a2] w fun e w' => e = .returned (.bool true) ∧ Below w.heap.size w w' := by
  obtain ⟨b0, b1⟩ := bounds_u64 w1
  obtain ⟨m0, m1⟩ := bounds_u8 w2
  obtain ⟨xs, hB⟩ := h0.bytes
  have HB := Hd.mk hB
  clear hB h0 w1 w2
  rcases Nat.eq_zero_or_pos n0 with rfl | hp
  · go_enter Try.func16, Try.ntmps16
    go_wp2_with (first | (go_at_call 21; go_must (refine (awake_calls _).mono ?_); rintro e w1 ⟨rfl, h1⟩; have H1 := Hd.mk h1; clear h1))
    go_ret
    exact ⟨rfl, H1.out⟩
  · obtain ⟨i, hi⟩ : ∃ i : Nat, a1 % (n0 : Int) = i := ⟨(a1 % (n0 : Int)).toNat, by have := Int.emod_nonneg a1 (show (n0 : Int) ≠ 0 by omega); omega⟩
    have hin : i < n0 := by have := Int.emod_lt_of_pos a1 (show (0 : Int) < n0 by omega); omega
    have hw : wrap64 (a1 % (n0 : Int)) = i := by rw [hi]; unfold wrap64; omega
    have hl := HB.out.len
    have hset := runB_set (BitVec.allOnes 32) xs i a2 HB.out.hr (by omega) m0 m1
    have hgr := gb_range HB.out.hr i
    obtain ⟨_, v0, v1⟩ := byte_xor (gb xs i) a2 hgr.1 hgr.2 m0 m1
    have HV := Hd.mk (set_range HB.out.hr i _ v0 v1)
    rw [hl] at hset
    obtain ⟨D, eD⟩ : ∃ D, Sn (8 * (n0 - 1 - i)) (runB 0#32 [a2]) = D := ⟨_, rfl⟩
    rw [eD] at hset
    have hT1 : ∀ (c : R) (w : World), Calls Try.prog 34 #[.int .u32 (W c), .int .i64 n0, .int .i64 i, .int .u8 a2] w fun e w' => e = .returned (.tuple #[.int .u32 (W (c ^^^ D)), .int .i64 0]) ∧ Below w.heap.size w w' := by
      intro c w
      rw [← eD]
      exact turned_ok c n0 i a2 hin (by omega) m0 m1 w
    have HT := Hd.mk hT1
    clear hT1 eD v0 v1 hgr
    have HS := Hd.mk (show sumOf [xs.set i (bits .xor .u8 (gb xs i) a2)] = sumOf [xs] ^^^ D by
      show ~~~ runB _ _ = (~~~ runB _ _) ^^^ D
      rw [hset, BitVec.not_xor_left])
    obtain ⟨s, es⟩ : ∃ s, sumOf [xs] = s := ⟨_, rfl⟩
    rw [es] at HS
    have HSP : Hd (∀ (w : World), Bs w a0 n0 c0 xs → Calls Try.prog 22 #[.slice (some ⟨w.heap.size, 0, none⟩) 1 1] (w.alloc (.cells #[.slice a0 n0 c0] 23)) fun e w' => e = .returned (.int .u32 (W s)) ∧ Below (w.alloc (.cells #[.slice a0 n0 c0] 23)).heap.size (w.alloc (.cells #[.slice a0 n0 c0] 23)) w') := ⟨fun w hb => es ▸ sum_calls _ 1 1 [xs] _ (Ps.one 23 hb) (Nat.le_refl _)⟩
    clear es hset
    go_enter Try.func16, Try.ntmps16
    go_wp2_with (first
      | (go_at_call 21; go_must (refine (awake_calls _).mono ?_); rintro e w1 ⟨rfl, h1⟩; have H1 := Hd.mk h1; have HB1 := Hd.mk (HB.out.below h1); clear h1)
      | (at_builtin; go_must (refine wpList_copy1 rfl _ _ rfl rfl rfl HB1.out (by omega) hp ?_); intro g c2 w2 hg hc2 h2 h3; have h2' := h2.out; rw [OB, HB.out.len] at h2'; obtain ⟨hc1, hf1⟩ := own_at h2' (i : Int) (by omega) (by omega); rw [Int.toNat_natCast, rd_gb] at hc1; rw [Int.toNat_natCast] at hf1; have H2 := Hd.mk h2'; clear h2'))
    obtain ⟨v, ev⟩ : ∃ v, bits .xor .u8 (gb xs i) a2 = v := ⟨_, rfl⟩
    have hst := (own_store H2.out (i : Int) v).1
    rw [Int.toNat_natCast] at hst
    rw [ev] at HS HV ⊢
    have HB2 := HB1.out.below h3.out
    have hW2 : Below w1.heap.size w1 (w2.setCell ⟨g, i, none⟩ (.int .u8 v)) := h3.out.setCell hg _
    have hBq := HB1.out.below hW2
    have hsz : (w2.setCell ⟨g, i, none⟩ (.int .u8 v)).heap.size = w2.heap.size := by simp [World.setCell]
    have HSET := HS.out
    have HVR := HV.out
    obtain ⟨ys, ey⟩ : ∃ ys, xs.set i v = ys := ⟨_, rfl⟩
    rw [ey] at hst HSET HVR
    have hyl : ys.length = n0 := by rw [← ey, List.length_set, hl]
    obtain ⟨wq, ewq⟩ : ∃ wq, w2.setCell ⟨g, i, none⟩ (.int .u8 v) = wq := ⟨_, rfl⟩
    rw [ewq] at hst hBq hsz hW2 ⊢
    have hOQ : OB wq w1.heap.size (.slice (some ⟨g, 0, none⟩) n0 c2) ys := by rw [OB, hyl]; exact hst
    have hBQ : Bs wq (some ⟨g, 0, none⟩) n0 c2 ys := by
      obtain ⟨A, c, e, hb⟩ := OB.bs hOQ HVR
      rw [hyl] at e hb
      cases e
      exact hb
    have HQ := Hd.mk hBQ
    have HBQ := Hd.mk hBq
    have HWQ := Hd.mk (below_step H1.out hW2)
    have HSQ : Hd (∀ (w : World), Bs w (some ⟨g, 0, none⟩) n0 c2 ys → Calls Try.prog 22 #[.slice (some ⟨w.heap.size, 0, none⟩) 1 1] (w.alloc (.cells #[.slice (some ⟨g, 0, none⟩) n0 c2] 23)) fun e w' => e = .returned (.int .u32 (W (s ^^^ D))) ∧ Below (w.alloc (.cells #[.slice (some ⟨g, 0, none⟩) n0 c2] 23)).heap.size (w.alloc (.cells #[.slice (some ⟨g, 0, none⟩) n0 c2] 23)) w') := ⟨fun w hb => HSET ▸ sum_calls _ 1 1 [ys] _ (Ps.one 23 hb) (Nat.le_refl _)⟩
    clear hst hBq hW2 hOQ hBQ HSET HVR ey ewq ev HS HV HB2 hc1 hf1 H2 h2 h3 hi hw hyl hl HB HB1 b0 b1 y0
    have hS3 := HSP.out wq HBQ.out
    rw [hsz] at hS3
    refine hS3.mono ?_
    clear hS3 hsz
    rintro e w3 ⟨rfl, h4⟩
    have H3 := Hd.mk (below_step ((Below.refl wq.heap.size wq).alloc (Nat.le_refl _) (.cells #[.slice a0 n0 c0] 23)) h4)
    clear h4
    go_wp2_with fail
    go_at_call 34
    refine (HT.out _ _).mono ?_
    rintro e w4 ⟨rfl, h4⟩
    have H4 := Hd.mk (below_step H3.out h4)
    clear h4 H3
    go_wp2_with fail
    go_at_call 34
    refine (HT.out _ _).mono ?_
    rw [BitVec.xor_assoc, BitVec.xor_self, BitVec.xor_zero]
    rintro e w5 ⟨rfl, h5⟩
    have H5 := Hd.mk (below_step H4.out h5)
    clear h5 H4
    go_wp2_with fail
    go_at_call 22
    refine (HSQ.out w5 (HQ.out.below H5.out)).mono ?_
    rintro e w6 ⟨rfl, h6⟩
    have H6 := Hd.mk (below_step (H5.out.alloc H5.out.size (.cells #[.slice (some ⟨g, 0, none⟩) n0 c2] 23)) h6)
    clear h6 H5
    go_wp2_with fail
    go_at_call 22
    refine (HSP.out w6 (HBQ.out.below H6.out)).mono ?_
    rintro e w7 ⟨rfl, h7⟩
    have H7 := Hd.mk (below_step (H6.out.alloc H6.out.size (.cells #[.slice a0 n0 c0] 23)) h7)
    clear h7 H6
    go_wp2
    go_ret
    exact ⟨rfl, below_step HWQ.out H7.out⟩
end Go.Proofs.Ytelmkcbakeccoaa
