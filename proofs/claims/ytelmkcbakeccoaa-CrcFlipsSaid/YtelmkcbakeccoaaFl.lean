/- crc: one, two, three turned bits: what they do to the register is not nothing. -/
import Derived.Test.YtelmkcbakeccoaaTx
namespace Go.Proofs.Ytelmkcbakeccoaa
set_option linter.unusedVariables false
def FX (M : Nat) : List Nat → R
  | [] => 0#32
  | a :: l => X (M - a) ^^^ FX M l
theorem FX_snoc (M : Nat) : ∀ (l : List Nat) (a : Nat), FX M (l ++ [a]) = FX M l ^^^ X (M - a)
  | [], a => by simp [FX]
  | b :: l, a => by
    rw [List.cons_append, FX, FX, FX_snoc M l a, BitVec.xor_assoc]
theorem x_two {a b : Nat} (h : a ≠ b) (ha : a < 4294967295) (hb : b < 4294967295) : X a ^^^ X b ≠ 0#32 := by
  intro e
  have e1 : X a = X b := by
    have := congrArg (fun x => x ^^^ X b) e
    simpa [BitVec.xor_assoc] using this
  rcases Nat.lt_or_ge a b with hl | hl
  · exact X_inj hl (by omega) e1
  · exact X_inj (show b < a by omega) (by omega) e1.symm
theorem x_ord {a b c : Nat} (hab : a < b) (hbc : b < c) (hc : c - a < 91632) : X a ^^^ (X b ^^^ X c) ≠ 0#32 := by
  intro e
  have eb : X b = Sn a (X (b - a)) := by rw [X, X, ← Sn_add]; congr 1; omega
  have ec : X c = Sn a (X (c - a)) := by rw [X, X, ← Sn_add]; congr 1; omega
  have ea : X a = Sn a e0 := rfl
  rw [ea, eb, ec, ← Sn_xor, ← Sn_xor] at e
  have e1 := Sn_inj a (e.trans (Sn_zero a).symm)
  refine X_three (a := b - a) (b := c - a) (by omega) (by omega) hc ?_
  have := congrArg (fun x => e0 ^^^ x) e1
  simpa [xcl] using this
theorem x_sw (a b c : R) : a ^^^ (b ^^^ c) = b ^^^ (c ^^^ a) := by rw [xlc, BitVec.xor_comm a c]
theorem x_three {a b c : Nat} {m : Nat} (hab : a ≠ b) (hac : a ≠ c) (hbc : b ≠ c) (h : ∀ x, x = a ∨ x = b ∨ x = c → m ≤ x ∧ x < m + 91632) : X a ^^^ (X b ^^^ X c) ≠ 0#32 := by
  have h1 := h a (.inl rfl)
  have h2 := h b (.inr (.inl rfl))
  have h3 := h c (.inr (.inr rfl))
  rcases Nat.lt_or_ge a b with ab | ab <;> rcases Nat.lt_or_ge b c with bc | bc <;> rcases Nat.lt_or_ge a c with ac | ac
  · exact x_ord ab bc (by omega)
  · omega
  · rw [BitVec.xor_comm (X b)]; exact x_ord ac (by omega) (by omega)
  · rw [x_sw, x_sw]; exact x_ord (show c < a by omega) ab (by omega)
  · rw [xlc]; exact x_ord (show b < a by omega) ac (by omega)
  · rw [x_sw]; exact x_ord bc (show c < a by omega) (by omega)
  · omega
  · rw [BitVec.xor_comm (X b), x_sw, BitVec.xor_comm (X b), xlc]
    rw [x_sw]
    have := x_ord (show c < b by omega) (show b < a by omega) (by omega)
    intro e
    apply this
    rw [← e]
theorem fx_ne (N : Nat) (ats : List Nat) (hd : ats.Nodup) (hlt : ∀ a ∈ ats, a < 8 * N) (h1 : 1 ≤ ats.length) (h3 : ats.length ≤ 3)
    (hN : ats.length < 3 → N ≤ 268435456) (hN3 : ats.length = 3 → N ≤ 11454) : FX (31 + 8 * N) ats ≠ 0#32 := by
  match ats, hd, hlt, h1, h3, hN, hN3 with
  | [a], hd, hlt, _, _, _, _ => simpa [FX] using X_ne0 _
  | [a, b], hd, hlt, _, _, hN, _ =>
    have ha := hlt a (by simp)
    have hb := hlt b (by simp)
    have hn := hN (by simp)
    have hne : a ≠ b := by simpa using hd
    have := x_two (a := 31 + 8 * N - a) (b := 31 + 8 * N - b) (by omega) (by omega) (by omega)
    simpa [FX] using this
  | [a, b, c], hd, hlt, _, _, _, hN3 =>
    have ha := hlt a (by simp)
    have hb := hlt b (by simp)
    have hc := hlt c (by simp)
    have hn := hN3 rfl
    simp at hd
    have := x_three (a := 31 + 8 * N - a) (b := 31 + 8 * N - b) (c := 31 + 8 * N - c) (m := 32) (by omega) (by omega) (by omega) (by omega)
    simpa [FX] using this
end Go.Proofs.Ytelmkcbakeccoaa
