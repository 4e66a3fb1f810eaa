/- vcd: numbers' bytes, and bytes behind bytes. -/
import Derived.Test.YtmfnjmecnhagmaaWr
namespace Go.Proofs.Ytmfnjmecnhagmaa
open Go.RowKit Go.ChangeShapes Go.WideShapes Go.Shelf Go.Maps Go.Proofs.YtmfnjmecnhagmaaW.PrintWords Go.Proofs.YtmfnjmecnhagmaaW.PrintLast Go.Proofs.YtmfnjmecnhagmaaW.PrintMore Go.Proofs.Ytmfnjmecnhagmaa.Pr
set_option linter.unusedVariables false
set_option linter.unusedSimpArgs false
theorem num_c (k : Nat) (v : Int) (r : List Int) (h : vcd_number.f k v = some r) (n : Nat) (hn : r.length = n) (W : World) : Calls Try.prog 48 #[.int .i64 v] W fun e w' => ∃ A c, e = .returned (.slice A n c) ∧ OB w' W.heap.size (.slice A n c) r ∧ Below W.heap.size W w' := by
  refine (vcd_number.calls k v r W h).mono ?_
  rintro e w' ⟨v0, rfl, hr, hb⟩
  have ho : OB w' W.heap.size v0 r := Kd.own_of_R hr
  obtain ⟨A, c, rfl⟩ := own_slice ho
  subst hn
  exact ⟨A, c, rfl, ho, hb⟩
/-- Bytes behind bytes. -/
theorem appB {W : World} {base n c : Nat} {A : Option Addr} {l : List Int} (h : OB W base (.slice A n c) l) (hb : base ≤ W.heap.size) {A2 : Option Addr} {m c2 : Nat} {ys : List Int} (hy : (Kd.int .u8).C W A2 m ys) (hl : n + m ≤ 1000000000) (hn : l.length = n) :
    ∃ A' c' w', (Builtin.append_ #[34, 34] 34 #[.slice A n c, .slice A2 m c2]).run Try.prog W = .ok (.slice A' (n + m) c') w' ∧ OB w' base (.slice A' (n + m) c') (l ++ ys) ∧ Below base W w' ∧ W.grownBy w' (Value.slice A n c).ownBlock := by
  have hym : ys.length = m := hy.1
  have h2 : W.ownsRow base 5 1 (.slice A n c) n (nums .u8 l) := by rw [← hn]; rw [← hn] at h; exact h
  obtain ⟨v', w', h1, h3, h4, _, _⟩ := run_app (P := Try.prog) W base 34 34 5 (.int .u8 0) 1 1 eltB _ _ _ h2 A2 m c2 _ (Src.of_C hy) (by omega) hb
  obtain ⟨A', c', rfl⟩ := own_slice h3
  refine ⟨A', c', w', h1, ?_, (Below.refl base W).grown h4 hb (own_base h2), h4⟩
  rw [OB, nums_append, List.length_append, hn, hym]
  exact h3
theorem own_cap' {w : World} {base : Nat} {e : TypeId} {size n m c : Nat} {A : Option Addr} {xs : List Value} (h : w.ownsRow base e size (.slice A m c) n xs) : m ≤ c := by
  rcases h.2 with ⟨e1, _⟩ | ⟨g, cap, cur, e1, _, _, h1, _⟩
  · cases e1; exact Nat.le_refl _
  · cases e1; exact h1
theorem OB.C {W : World} {base n c : Nat} {A : Option Addr} {l : List Int} (h : OB W base (.slice A n c) l) (hn : l.length = n) : (Kd.int .u8).C W A n l ∧ n ≤ c := by
  subst hn
  exact ⟨own_C8 h, own_cap' h⟩
theorem own_keep {W W' : World} {base n m size : Nat} {e : TypeId} {v : Value} {xs : List Value} (h : W.ownsRow base e size v m xs) (hb : Below n W W') (hlt : ∀ k, v.ownBlock = some k → k < n) : W'.ownsRow base e size v m xs :=
  own_move h (fun k hk => hb.block k (hlt k hk))
theorem nilC (W : World) : (Kd.int .u8).C W none 0 [] := (OB.C (own_nil W 0 _ _ : OB W 0 (.slice none 0 0) []) rfl).1
theorem litB (W : World) (b : Int) : OB (W.alloc (.cells #[.int .u8 b] 5)) W.heap.size (.slice (some ⟨W.heap.size, 0, none⟩) 1 1) [b] := own_lit W W.heap.size 5 .u8 [b] (Nat.le_refl _) (by show 1 ≤ _; decide)
/-- The rows while a window's body is made: what stands ahead (b), the codes (c), the addresses (a), the body. -/
structure St (W0 : World) (n8 : Nat) (W : World) (vb vc va v : Value) (lb lc la l : List Int) : Prop where
  b : OB W W0.heap.size vb lb
  c : OB W W0.heap.size vc lc
  a : OB W W0.heap.size va la
  body : OB W n8 v l
  be : Below W0.heap.size W0 W
  lo : W0.heap.size ≤ n8
  hi : n8 ≤ W.heap.size
  bl : ∀ k, vb.ownBlock = some k → k < n8
  cl : ∀ k, vc.ownBlock = some k → k < n8
  al : ∀ k, va.ownBlock = some k → k < n8
theorem St.below {W0 W W' : World} {n8 : Nat} {vb vc va v : Value} {lb lc la l : List Int} (h : St W0 n8 W vb vc va v lb lc la l) (hb : Below W.heap.size W W') : St W0 n8 W' vb vc va v lb lc la l :=
  ⟨pw_own_below h.b hb, pw_own_below h.c hb, pw_own_below h.a hb, pw_own_below h.body hb, below_step h.be hb, h.lo, Nat.le_trans h.hi hb.size, h.bl, h.cl, h.al⟩
/-- More bytes behind the body. -/
theorem St.app {W0 W : World} {n8 n c : Nat} {A : Option Addr} {vb vc va : Value} {lb lc la l : List Int} (h : St W0 n8 W vb vc va (.slice A n c) lb lc la l) {A2 : Option Addr} {m : Nat} (c2 : Nat) {ys : List Int} (hy : (Kd.int .u8).C W A2 m ys) (hl : n + m ≤ 1000000000) (hn : l.length = n) :
    ∃ A' c' w', (Builtin.append_ #[34, 34] 34 #[.slice A n c, .slice A2 m c2]).run Try.prog W = .ok (.slice A' (n + m) c') w' ∧ St W0 n8 w' vb vc va (.slice A' (n + m) c') lb lc la (l ++ ys) ∧ ∀ (g : Nat) (cs : Array Value) (t : TypeId), W.heap[g]? = some (Obj.cells cs t (0, 0)) → 5 ≠ t → w'.heap[g]? = some (Obj.cells cs t (0, 0)) := by
  obtain ⟨A', c', w', h1, h2, h3, h4⟩ := appB (c2 := c2) h.body h.hi hy hl hn
  refine ⟨A', c', w', h1, ⟨own_keep h.b h3 h.bl, own_keep h.c h3 h.cl, own_keep h.a h3 h.al, h2, h.be.trans (h3.mono h.lo), h.lo, Nat.le_trans h.hi h3.size, h.bl, h.cl, h.al⟩, fun g cs t hg ht => blk_grown hg h4 (own_ne h.body hg ht)⟩
end Go.Proofs.Ytmfnjmecnhagmaa
