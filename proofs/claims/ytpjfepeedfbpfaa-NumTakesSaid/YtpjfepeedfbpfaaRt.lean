/- num: the document's Taker. -/
import Derived.Test.YtpjfepeedfbpfaaLk
import Derived.Test.YtpjfepeedfbpfaaTk
namespace Go.Proofs.Ytpjfepeedfbpfaa
open Go.RowKit Go.Proofs.YtpjfepeedfbpfaaW.PrintWords Go.Proofs.YtpjfepeedfbpfaaW.PrintLast Go.Proofs.YtpjfepeedfbpfaaW.PrintMore
set_option linter.unusedVariables false
set_option linter.unusedSimpArgs false
/-- The document's state behind a byte, and the answer. -/
def rt (xs : List Int) (b : Int) : List Int × (Int × Bool × Int) :=
  if wrongB (xs.length + 1 : Nat) b ≠ 0 then ([], (0, false, wrongB (xs.length + 1 : Nat) b))
  else if 128 ≤ b then (xs ++ [b], (0, false, 0))
  else ([], (val (xs ++ [b]), true, 0))
theorem tk_rt (xs : List Int) (b : Int) (h9 : xs.length ≤ 9) (b0 : 0 ≤ b) : (tk (val xs) xs.length b).2 = (rt xs b).2 ∧ (tk (val xs) xs.length b).1 = (val (rt xs b).1, ((rt xs b).1.length : Int)) ∧ (rt xs b).1.length ≤ 9 := by
  have hv : val (xs ++ [b]) = val xs + 128 ^ xs.length * (b % 128) := val_append xs b
  have hn : val [] = 0 := rfl
  unfold rt tk wrongB
  rw [Int.toNat_natCast]
  by_cases k1 : ((xs.length : Int) = 9 ∧ 1 < b)
  · have e1 : (((xs.length + 1 : Nat) : Int) = 10 ∧ 1 < b) := by omega
    simp only [if_pos k1, if_pos e1]
    simp [hn]
  · have e1 : ¬ (((xs.length + 1 : Nat) : Int) = 10 ∧ 1 < b) := by omega
    simp only [if_neg k1, if_neg e1]
    by_cases k2 : (0 < (xs.length : Int) ∧ b = 0)
    · have e2 : (1 < ((xs.length + 1 : Nat) : Int) ∧ b = 0) := by omega
      simp only [if_pos k2, if_pos e2]
      simp [hn]
    · have e2 : ¬ (1 < ((xs.length + 1 : Nat) : Int) ∧ b = 0) := by omega
      simp only [if_neg k2, if_neg e2, ne_eq, not_true, if_false]
      by_cases k3 : 127 < b
      · rw [if_pos k3, if_pos (by omega)]
        refine ⟨rfl, ?_, ?_⟩
        · simp [hv]
        · simp; omega
      · rw [if_neg k3, if_neg (by omega)]
        exact ⟨by simp [hv], by simp [hn], by simp⟩
/-- The document's Taker at block G. -/
def Xtk (w : World) (G : Nat) (v : Value) : Prop := w.heap[G]? = some (.cells #[v] 45 (0, 0))
def RtPost (w : World) (G : Nat) (xs : List Int) (b : Int) (e : Ending) (w' : World) : Prop :=
  ∃ (A : Option Addr) (n c : Nat), e = .returned (retT (rt xs b).2) ∧ Xtk w' G (.slice A n c) ∧ Bs w' A n c (rt xs b).1 ∧ (∀ ad, A = some ad → w.heap.size ≤ ad.block) ∧ Upd (· = G) w w'
set_option maxHeartbeats 1000000 in
theorem rtake_calls (G : Nat) (A : Option Addr) (n c : Nat) (xs : List Int) (b : Int) (w : World) (hG : Xtk w G (.slice A n c)) (hB : Bs w A n c xs) (h9 : n ≤ 9) (b0 : 0 ≤ b) (b1 : b ≤ 255) :
    Calls Try.prog 25 #[.pointer (some ⟨G, 0, none⟩), .int .u8 b] w fun e w' => RtPost w G xs b e w' := by
  have hlt := blk_lt hG
  have c0 := (blk_cell hG 0)
  have f0 := (blk_frozen hG 0)
  simp at c0
  have HG := Hd.mk hG
  have HB := Hd.mk hB
  have hxl := hB.len
  have HX := Hd.mk hxl
  have HK : Hd (∀ w', Below w.heap.size w w' → Xtk w' G (.slice A n c)) := ⟨fun w' hb => (hb.block G hlt).trans hG⟩
  clear hG hB hxl
  have c1 : (w.alloc (.cells #[] 5)).cell? ⟨G, 0, none⟩ = some (.slice A n c) := by have := blk_cell (HK.out _ ((Below.refl _ _).alloc (Nat.le_refl _) (.cells #[] 5))) 0; simpa using this
  have f1 : (w.alloc (.cells #[] 5)).frozen? ⟨G, 0, none⟩ = false := blk_frozen (HK.out _ ((Below.refl _ _).alloc (Nat.le_refl _) (.cells #[] 5))) 0
  go_enter Try.func25, Try.ntmps25
  go_wp2_with (first
    | (at_builtin; refine wpList_app (v := .slice (some ⟨w.heap.size, 0, none⟩) 0 0) (n := 0) (xs := []) (m := n) rfl (.tmp 10) (.tmp 14) _ rfl w.heap.size eltB rfl rfl (World.ownsRow_lit w #[] 0 (Nat.le_refl _) (Nat.zero_le _) rfl) (Src.of_C (Kd.C_below HB.out.C ((Below.refl _ _).alloc (Nat.le_refl _) _))) (by omega) (by simp) ?_; intro v1 w1 h1 h2 h3 _)
    | (at_builtin; refine wpList_app (v := v1) (n := 0 + n) (xs := [] ++ nums .u8 xs) (m := 1) (news := [.int .u8 b]) rfl (.tmp 15) (.tmp 17) _ rfl w.heap.size eltB rfl rfl (h1.out.alloc _) (Src.one _ _ _ rfl) (by omega) (by have := h2.out.size; simp at this ⊢; omega) ?_; intro v2 w2 h4 h5 h6 _; obtain ⟨g2, d2, rfl, hg2, hl2⟩ := h4.out.form (by omega); have HW := Hd.mk (show Below w.heap.size w w2 from (show Below w.heap.size w w1 from ((Below.refl _ _).alloc (Nat.le_refl _) _).grown h2.out (by simp) (fun k hk => by simp [Value.ownBlock] at hk; omega)) |>.alloc (by have := h2.out.size; simp at this; omega) _ |>.grown h5.out (by have := h2.out.size; simp at this ⊢; omega) (own_base h1.out)); have c2 := blk_cell (HK.out _ HW.out) 0; have f2 := blk_frozen (HK.out _ HW.out) 0; simp at c2; have H4 := Hd.mk h4.out; clear h1 h2 h3 h4 h5 h6 c0 f0 c1 f1))
  have h4 := H4.out
  simp only [Nat.zero_add, List.nil_append] at h4
  have hO : OB w2 w.heap.size (.slice (some ⟨g2, 0, none⟩) (n + 1) d2) (xs ++ [b]) := by
    have := OB.snoc (ys := [b]) h4 (by simp [HX.out])
    simpa [HX.out] using this
  have hO3 := own_upd hO ((Upd.refl (· = G) w2).set1 0 (.slice (some ⟨g2, 0, none⟩) (n + 1) d2)) (fun k hk => by simp [Value.ownBlock] at hk; omega)
  have hr : ∀ x ∈ xs ++ [b], 0 ≤ x ∧ x ≤ 255 := by
    intro x hx
    rcases List.mem_append.1 hx with hx | hx
    · exact HB.out.hr x hx
    · simp at hx; omega
  have hB3 : Bs (w2.setCell ⟨G, 0, none⟩ (.slice (some ⟨g2, 0, none⟩) (n + 1) d2)) (some ⟨g2, 0, none⟩) (n + 1) d2 (xs ++ [b]) := by
    obtain ⟨A', c', e, hb⟩ := OB.bs hO3 hr
    simp [HX.out] at e hb
    obtain ⟨rfl, rfl⟩ := e
    exact hb
  have hG3 : Xtk (w2.setCell ⟨G, 0, none⟩ (.slice (some ⟨g2, 0, none⟩) (n + 1) d2)) G (.slice (some ⟨g2, 0, none⟩) (n + 1) d2) := by
    have := blk_set (HK.out _ HW.out) 0 (.slice (some ⟨g2, 0, none⟩) (n + 1) d2)
    simpa [Xtk] using this
  have hU3 : Upd (· = G) w (w2.setCell ⟨G, 0, none⟩ (.slice (some ⟨g2, 0, none⟩) (n + 1) d2)) := (Upd.of_below HW.out).set1 0 _
  obtain ⟨w3, hw3⟩ : ∃ w3, w2.setCell ⟨G, 0, none⟩ (.slice (some ⟨g2, 0, none⟩) (n + 1) d2) = w3 := ⟨_, rfl⟩
  rw [hw3] at hO3 hB3 hG3 hU3 ⊢
  have c3 := blk_cell hG3 0
  have f3 := blk_frozen hG3 0
  simp at c3
  have HG3 := Hd.mk hG3
  have HB3 := Hd.mk hB3
  have HU3 := Hd.mk hU3
  have HL2 : Hd (w.heap.size ≤ g2) := ⟨hg2⟩
  have hgb : gb (xs ++ [b]) n = b := by rw [← HX.out]; unfold gb; simp [List.getD_eq_getElem?_getD]
  have HGB := Hd.mk hgb
  clear h4 hO hO3 hB3 hG3 hU3 hw3 c2 f2 H4 hgb HW hr
  refine (wrong_calls _ (n + 1) _ (xs ++ [b]) _ HB3.out.C HB3.out.hc (by omega)).mono ?_
  rw [Nat.add_sub_cancel, HGB.out]
  rintro e w4 ⟨rfl, rfl⟩
  have hwb : wrongB (xs.length + 1 : Nat) b = wrongB (n + 1 : Nat) b := by rw [HX.out]
  obtain ⟨q, hq⟩ : ∃ q, wrongB (n + 1 : Nat) b = q := ⟨_, rfl⟩
  rw [hq] at hwb ⊢
  by_cases k1 : q = 0
  · subst k1
    by_cases k2 : 128 ≤ b
    · have ht : rt xs b = (xs ++ [b], (0, false, 0)) := by unfold rt; rw [hwb, if_neg (by simp), if_pos k2]
      have HT := Hd.mk ht
      clear ht hwb hq
      go_wp2
      go_ret3
      exact ⟨_, n + 1, _, by rw [HT.out]; rfl, HG3.out, by rw [HT.out]; exact HB3.out, (fun ad e => by cases e; exact HL2.out), HU3.out⟩
    · have hfit := val_fits (xs ++ [b]) n (by simp [HX.out]) h9 (by rw [HGB.out]; exact hq) (by rw [HGB.out]; exact b0)
      rw [List.take_of_length_le (by simp [HX.out])] at hfit
      have ht : rt xs b = ([], (val (xs ++ [b]), true, 0)) := by unfold rt; rw [hwb, if_neg (by simp), if_neg k2]
      have HT := Hd.mk ht
      have HF := Hd.mk hfit
      clear ht hwb hfit hq
      have k2' : b < 128 := by omega
      go_wp2_with fail
      go_at_call 36
      refine (value_calls _ (n + 1) _ (xs ++ [b]) _ HB3.out.C HB3.out.hc HB3.out.hr HF.out).mono ?_
      rintro e w5 ⟨rfl, rfl⟩
      go_wp2
      go_ret3
      refine ⟨none, 0, 0, by rw [HT.out]; rfl, ?_, by rw [HT.out]; exact ⟨Kd.C_nil _ _, Nat.le_refl _, by simp⟩, (fun ad e => by cases e), HU3.out.set1 0 _⟩
      have := blk_set HG3.out 0 (.slice none 0 0)
      simpa [Xtk] using this
  · have hne : (q != 0) = true := by simpa using k1
    have ht : rt xs b = ([], (0, false, q)) := by unfold rt; rw [hwb, if_pos k1]
    have HT := Hd.mk ht
    clear ht hq hwb k1
    go_wp2
    go_ret3
    refine ⟨none, 0, 0, by rw [HT.out]; rfl, ?_, by rw [HT.out]; exact ⟨Kd.C_nil _ _, Nat.le_refl _, by simp⟩, (fun ad e => by cases e), HU3.out.set1 0 _⟩
    have := blk_set HG3.out 0 (.slice none 0 0)
    simpa [Xtk] using this
end Go.Proofs.Ytpjfepeedfbpfaa
