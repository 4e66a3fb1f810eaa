/- num: the numbers that stand behind one another: the list, the program's All, its iterator. -/
import Derived.Test.YtpjfepeedfbpfaaRf
import Derived.Test.YtpjfepeedfbpfaaDc
import Derived.Test.YtpjfepeedfbpfaaRw
import Derived.Test.YtpjfepeedfbpfaaNe
import Derived.Shelf.Abstract
import Derived.Shelf.RegionOpen
import Derived.OwnWalkIn
import Derived.TacticsInMore
import Derived.LoopNIn
import Derived.LoopIn
namespace Go.Proofs.Ytpjfepeedfbpfaa
open Go.RowKit Go.Shelf Go.Proofs.YtpjfepeedfbpfaaW.PrintWords Go.Proofs.YtpjfepeedfbpfaaW.PrintLast Go.Proofs.YtpjfepeedfbpfaaW.PrintMore
set_option linter.unusedVariables false
set_option linter.unusedSimpArgs false
def al (xs : List Int) : Nat → Nat → List (Nat × Int)
  | 0, _ => []
  | k + 1, at_ => if (rdN (xs.drop at_)).2.2 ≠ 0 then [] else (at_, (rdN (xs.drop at_)).1) :: al xs k (at_ + (rdN (xs.drop at_)).2.1.toNat)
def allN (xs : List Int) : List (Nat × Int) := al xs (xs.length + 1) 0
theorem rdA_ok (xs : List Int) : ∀ (k i : Nat), k + i = xs.length → (rdA xs k i).2.2 = 0 → ∃ m : Nat, (rdA xs k i).2.1 = m ∧ i < m ∧ m ≤ xs.length
  | 0, i, _, h => by simp [rdA] at h
  | k + 1, i, hk, h => by
    rw [rdA] at h ⊢
    by_cases h1 : wrongB (i + 1 : Nat) (gb xs i) ≠ 0
    · rw [if_pos h1] at h
      exact absurd h h1
    · rw [if_neg h1] at h ⊢
      by_cases h2 : gb xs i < 128
      · rw [if_pos h2]
        exact ⟨i + 1, rfl, by omega, by omega⟩
      · rw [if_neg h2] at h ⊢
        obtain ⟨m, e, h3, h4⟩ := rdA_ok xs k (i + 1) (by omega) h
        exact ⟨m, e, by omega, h4⟩
theorem rdN_ok (xs : List Int) (h : (rdN xs).2.2 = 0) : ∃ m : Nat, (rdN xs).2.1 = m ∧ 0 < m ∧ m ≤ xs.length := rdA_ok xs xs.length 0 (by omega) h
theorem rdN_nil : (rdN []).2.2 = 11 := rfl
theorem al_step (xs : List Int) (k at_ m : Nat) (v : Int) (h : rdN (xs.drop at_) = (v, (m : Int), 0)) : al xs (k + 1) at_ = (at_, v) :: al xs k (at_ + m) := by
  rw [al, if_neg (by rw [h]; simp), h, Int.toNat_natCast]
theorem al_stop (xs : List Int) (k at_ : Nat) (h : (rdN (xs.drop at_)).2.2 ≠ 0) : al xs k at_ = [] := by
  cases k with
  | zero => rfl
  | succ k => rw [al, if_pos h]
/-- A slice's value in a box. -/
def Bxd (W : World) (B : Nat) (v : Value) : Prop := W.heap[B]? = some (.cells #[v] 26 (0, 0))
/-- append([]byte(nil), p...): a copy. -/
theorem wpList_copy {w : World} {ops : Array Oper} {rest : List Oper} {o : Oper} {a : Act} {Q : Exit → Act → World → Prop} (hgd : o.guard = none) (s x : Operand)
    (ho : o.op = .call { callee := .builtin .append, args := #[s, x], argTypes := #[26, 26] })
    {A : Option Addr} {m c : Nat} {xs : List Int} (hs : a.eval s = .slice none 0 0) (hx : a.eval x = .slice A m c) (hB : Bs w A m c xs) (hfit : m ≤ 140737488351232)
    (h : ∀ A' c' w', Hd (OB w' w.heap.size (.slice A' m c') xs) → Hd (Bs w' A' m c' xs) → Hd (Below w.heap.size w w') → wpList Try.prog ops Q rest (a.put o.dst (.slice A' m c')) w') :
    wpList Try.prog ops Q (o :: rest) a w := by
  have hl := hB.len
  refine wpList_app hgd s x _ ho w.heap.size eltB (v := .slice none 0 0) (n := 0) (m := m) (xs := nums .u8 []) hs hx (own_nil _ _ _ _) (Src.of_C hB.C) (by omega) (Nat.le_refl _) ?_
  intro v' w' h1 h2 _ _
  have hO : OB w' w.heap.size v' xs := OB.snoc (xs := []) h1.out (by simp [hl])
  obtain ⟨A', c', rfl, hb⟩ := OB.bs hO hB.hr
  rw [hl] at hb
  rw [hl]
  refine h A' c' w' ⟨?_⟩ ⟨hb⟩ ⟨(Below.refl _ _).grown h2.out (Nat.le_refl _) (fun k e => by cases e)⟩
  rw [← hl]
  exact hO
set_option maxHeartbeats 1000000 in
theorem all_calls (A : Option Addr) (n c : Nat) (xs : List Int) (w : World) (hB : Bs w A n c xs) (hn : n ≤ 140737488351232) :
    Calls Try.prog 27 #[.slice A n c] w fun e w' => ∃ B A' c', e = .returned (.func (.func 37) #[] #[.pointer (some ⟨B, 0, none⟩)]) ∧ Bxd w' B (.slice A' n c') ∧ Bs w' A' n c' xs ∧ w.heap.size ≤ B ∧ (∀ ad, A' = some ad → w.heap.size ≤ ad.block ∧ ad.block < B) ∧ Below w.heap.size w w' := by
  have HB := Hd.mk hB
  have hl := hB.len
  clear hB
  have hmf : ∀ (fn : Fn) (first cap : Array Value) (w : World), (Instr.makeFunc fn first cap).run Try.prog w = .ok (.func fn first cap) w := fun _ _ _ _ => rfl
  go_enter Try.func27, Try.ntmps27
  go_wp2_with (first
    | (at_builtin; refine wpList_copy rfl _ _ rfl rfl rfl HB.out hn ?_; intro A' c' w1 h1 h2 h3))
  have hbl := Hd.mk (show ∀ ad, A' = some ad → w.heap.size ≤ ad.block ∧ ad.block < w1.heap.size from fun ad e => by
    subst e
    exact ⟨own_base h1.out ad.block (by simp [Value.ownBlock]), own_lt h1.out ad.block (by simp [Value.ownBlock])⟩)
  have HB1 := h2
  have H1 := h3
  clear h1 h2 h3
  go_wp2
  go_ret
  refine ⟨w1.heap.size, A', c', rfl, blk_new w1 _, HB1.out.below ((Below.refl _ _).alloc (Nat.le_refl _) _), H1.out.size, hbl.out, H1.out.alloc H1.out.size _⟩
end Go.Proofs.Ytpjfepeedfbpfaa
