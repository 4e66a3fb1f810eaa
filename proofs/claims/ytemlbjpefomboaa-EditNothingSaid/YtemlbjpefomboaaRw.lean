/- edit: rows of bytes of one's own, by number, in blocks of their own. ; edit: bytes with room behind them, made by two appends. ; edit: a list that is written over and grown, two beside it that stay. -/
import Derived.Test.YtemlbjpefomboaaAc
import Derived.Test.YtemlbjpefomboaaFi
namespace Go.Proofs.Ytemlbjpefomboaa
open Go.RowKit Go.Shelf Go.Proofs.YtemlbjpefomboaaW.PrintWords Go.Proofs.YtemlbjpefomboaaW.PrintLast Go.Proofs.YtemlbjpefomboaaW.PrintMore Go.Proofs.Ytemlbjpefomboaa.Pr
set_option linter.unusedVariables false
set_option linter.unusedSimpArgs false
structure RowK where
  k : Nat
  v : Value
  l : List Int
structure Rw (W : World) (b : Nat) (rows : List RowK) : Prop where
  own : ∀ r ∈ rows, W.ownsRow b 5 1 r.v r.l.length (nums .u8 r.l)
  ne : ∀ r ∈ rows, ∀ s ∈ rows, r.k ≠ s.k → ∀ g, r.v.ownBlock = some g → s.v.ownBlock ≠ some g
theorem Rw.sub {W : World} {b : Nat} {rows rows' : List RowK} (h : Rw W b rows) (hs : ∀ r ∈ rows', r ∈ rows) : Rw W b rows' :=
  ⟨fun r hr => h.own r (hs r hr), fun r hr s hs' => h.ne r (hs r hr) s (hs s hs')⟩
theorem Rw.nil (W : World) (b : Nat) : Rw W b [] := ⟨fun r h => (by cases h), fun r h => (by cases h)⟩
theorem Rw.below {W W' : World} {b : Nat} {rows : List RowK} (h : Rw W b rows) (hb : Below W.heap.size W W') : Rw W' b rows := ⟨fun r hr => pw_own_below (h.own r hr) hb, h.ne⟩
theorem Rw.add {W : World} {b : Nat} {rows : List RowK} (h : Rw W b rows) (r : RowK) (hr : W.ownsRow b 5 1 r.v r.l.length (nums .u8 r.l)) (hne : ∀ s ∈ rows, ∀ g, r.v.ownBlock = some g → s.v.ownBlock ≠ some g) : Rw W b (r :: rows) := by
  refine ⟨fun s hs => ?_, fun s hs t ht hk g hg => ?_⟩
  · rcases List.mem_cons.1 hs with rfl | hs
    · exact hr
    · exact h.own s hs
  · rcases List.mem_cons.1 hs with e1 | hs1 <;> rcases List.mem_cons.1 ht with e2 | ht1
    · rw [e1, e2] at hk
      exact absurd rfl hk
    · rw [e1] at hg
      exact hne t ht1 g hg
    · rw [e2]
      intro e
      exact hne s hs1 g e hg
    · exact h.ne s hs1 t ht1 hk g hg
theorem Rw.lit {W : World} {b : Nat} {rows : List RowK} (h : Rw W b rows) (hb : b ≤ W.heap.size) (k : Nat) (l : List Int) (hl : l.length ≤ 100) :
    Rw (W.alloc (.cells (nums .u8 l).toArray 5)) b (⟨k, .slice (some ⟨W.heap.size, 0, none⟩) l.length l.length, l⟩ :: rows) := by
  have hba : Below W.heap.size W (W.alloc (.cells (nums .u8 l).toArray 5)) := (Below.refl _ _).alloc (Nat.le_refl _) _
  refine (h.below hba).add _ (own_lit W b 5 .u8 l hb (by omega)) (fun s hs g hg e => ?_)
  have := own_lt (h.own s hs) g e
  simp [Value.ownBlock] at hg
  omega
theorem own_src {W : World} {b n c : Nat} {A : Option Addr} {l : List Int} (h : W.ownsRow b 5 1 (.slice A n c) n (nums .u8 l)) : Src W A n 1 (nums .u8 l) := by
  obtain ⟨A', c', e, hr⟩ := own_reads h
  cases e
  have hl : l.length = n := by have := h.1; simp [nums] at this; exact this
  subst hl
  exact Src.of_C (Kd.C_of_reads (enc := Value.int .u8) (d := (0 : Int)) (h1 := fun _ => rfl) hr)
/-- append(nil, x): a copy in a block of its own. -/
theorem Rw.app0 {W : World} {b : Nat} {rows : List RowK} (h : Rw W b rows) (hb : b ≤ W.heap.size) (k : Nat) {A : Option Addr} {c : Nat} {l : List Int} (hC : Kd.C (Kd.int .u8) W A l.length l) (hl : l.length ≤ 140737488351232) :
    ∃ v' w', (Builtin.append_ #[25, 25] 25 #[.slice none 0 0, .slice A l.length c]).run Try.prog W = .ok v' w' ∧ Below W.heap.size W w' ∧ Rw w' b (⟨k, v', l⟩ :: rows) := by
  obtain ⟨v', w', hrun, ho, hg, hp, hn⟩ := run_app (P := Try.prog) W b 25 25 5 (.int .u8 0) 1 1 eltB (.slice none 0 0) 0 (nums .u8 []) (own_nil _ _ _ _) A l.length c _ (Src.of_C hC) (by omega) hb
  have hbw : Below W.heap.size W w' := (Below.refl _ _).grown hg (Nat.le_refl _) (fun k e => by cases e)
  rw [Nat.zero_add, show nums .u8 [] ++ nums .u8 l = nums .u8 l from rfl] at ho
  refine ⟨v', w', hrun, hbw, (h.below hbw).add _ ho (fun s hs g hg e => ?_)⟩
  have hlt := own_lt (h.own s hs) g e
  rcases hp with ⟨A', c', e1, e2⟩ | ⟨e1, _⟩
  · cases e1
    subst e2
    simp [Value.ownBlock] at hg
  · rw [e1] at hg
    cases hg
    omega
/-- append(r, s): r's row is given up for the new one. -/
theorem Rw.app {W w0 : World} {b : Nat} {rows : List RowK} (r s : RowK) (h : Rw W b (r :: s :: rows)) (hk : r.k ≠ s.k) (hks : ∀ t ∈ rows, r.k ≠ t.k) (hB : Below b w0 W) (hb : b ≤ W.heap.size) (k : Nat) {A : Option Addr} {c : Nat} (hs : s.v = .slice A s.l.length c)
    (hl : r.l.length + s.l.length ≤ 140737488351332) :
    ∃ v' w', (Builtin.append_ #[25, 25] 25 #[r.v, s.v]).run Try.prog W = .ok v' w' ∧ Below b w0 w' ∧ Rw w' b (⟨k, v', r.l ++ s.l⟩ :: s :: rows) := by
  have hr := h.own r (by simp)
  have hso := h.own s (by simp)
  rw [hs] at hso
  obtain ⟨v', w', hrun, ho, hg, hp, hn⟩ := run_app (P := Try.prog) W b 25 25 5 (.int .u8 0) 1 1 eltB r.v r.l.length (nums .u8 r.l) hr A s.l.length c _ (own_src hso) (by omega) hb
  have hbw : Below b w0 w' := hB.grown hg hb (own_base hr)
  rw [← nums_append] at ho
  have hrest : Rw w' b (s :: rows) := by
    refine ⟨fun t ht => ?_, fun t ht u hu => h.ne t (List.mem_cons_of_mem _ ht) u (List.mem_cons_of_mem _ hu)⟩
    refine own_other (h.own t (List.mem_cons_of_mem _ ht)) hg ?_
    cases hrb : r.v.ownBlock with
    | none =>
      cases htb : t.v.ownBlock with
      | none => exact .inl rfl
      | some g => exact .inr (by simp)
    | some g =>
      refine .inr (h.ne r (by simp) t (List.mem_cons_of_mem _ ht) ?_ g hrb)
      rcases List.mem_cons.1 ht with rfl | ht
      · exact hk
      · exact hks t ht
  rw [hs]
  refine ⟨v', w', hrun, hbw, hrest.add _ (by rw [List.length_append]; exact ho) (fun t ht g hg' e => ?_)⟩
  have hlt := own_lt (h.own t (List.mem_cons_of_mem _ ht)) g e
  rcases hp.block with e1 | e1
  · rw [e1] at hg'
    refine h.ne r (by simp) t (List.mem_cons_of_mem _ ht) ?_ g hg' e
    rcases List.mem_cons.1 ht with rfl | ht
    · exact hk
    · exact hks t ht
  · rw [e1] at hg'
    cases hg'
    omega
theorem elt80 : Elt Try.prog 26 80 (.agg #[.int .i64 0, .int .i64 0, .int .i64 0]) 3 24 := ⟨Try.underlying26, by kernel_rfl, rfl, by decide, by decide⟩
theorem cells80_one (l : List S80) : ∀ u ∈ cells80 l, u.oneCell' = true := by
  intro u hu
  obtain ⟨s, _, h⟩ := List.mem_flatMap.1 hu
  simp at h
  rcases h with rfl | rfl | rfl <;> rfl
theorem src80 {W : World} {A : Option Addr} {l : List S80} (h : Kd.C k80 W A l.length l) : Src W A l.length 3 (cells80 l) := by
  refine ⟨cells80_len l, fun q u hq => ?_, cells80_one l⟩
  have hlt := (List.getElem?_eq_some_iff.1 hq).1
  rw [cells80_len] at hlt
  obtain ⟨ad, e, hc⟩ := h.2.2 (by omega)
  have hj : q / 3 < l.length := by omega
  obtain ⟨c, _, hK, hcell⟩ := hc (q / 3) _ (List.getElem?_eq_getElem hj)
  rw [k80_open hK] at hcell
  have hi : q % 3 < 3 := Nat.mod_lt _ (by omega)
  have hu := List.getElem?_eq_getElem (l := [Value.int .i64 l[q / 3].f0, .int .i64 l[q / 3].f1, .int .i64 l[q / 3].f2]) (i := q % 3) (by simpa using hi)
  have h1 := cells80_at l (q / 3) _ (List.getElem?_eq_getElem hj) (q % 3) _ hu
  have hq3 : q / 3 * 3 + q % 3 = q := by omega
  rw [hq3, hq] at h1
  refine ⟨ad, e, ?_⟩
  have h2 := hcell (q % 3) _ hu
  rw [show q / 3 * k80.sz + q % 3 = q from hq3] at h2
  rw [h2, h1]
/-- An own row of steps, read. -/
theorem own_C80 {W : World} {b n c : Nat} {A : Option Addr} {l : List S80} (h : W.ownsRow b 80 3 (.slice A n c) n (cells80 l)) (hl : l.length = n) : Kd.C k80 W A l.length l := by
  subst hl
  rcases h.2 with ⟨e1, e2⟩ | ⟨g, cap, cur, e1, _, _, h1, h2, _⟩
  · have : l = [] := List.eq_nil_of_length_eq_zero e2
    subst this
    exact ⟨rfl, by simp, fun h => by simp at h⟩
  · cases e1
    have hcs := h.cells (g := g) rfl
    refine ⟨rfl, by simp only [maxLen] at h2; omega, fun _ => ⟨_, rfl, fun j p hj => ⟨[.int .i64 p.f0, .int .i64 p.f1, .int .i64 p.f2], rfl, k80_mk W p, fun i u hu => ?_⟩⟩⟩
    have := cells80_at l j p hj i u hu
    exact hcs _ _ this
def lentS : List S80 := [⟨71, 0, 0⟩, ⟨72, 0, 0⟩]
/-- A row's block, by its type. -/
def Typd (W : World) (A : Option Addr) (t : TypeId) : Prop := ∀ a, A = some a → ∃ cur, W.heap[a.block]? = some (.cells cur t (0, 0))
theorem Typd.own {W : World} {b size n c : Nat} {e : TypeId} {A : Option Addr} {xs : List Value} (h : W.ownsRow b e size (.slice A n c) n xs) : Typd W A e := by
  intro a ha
  subst ha
  rcases h.2 with ⟨h', _⟩ | ⟨g, cap, cur, h', _, hg, _⟩
  · simp at h'
  · simp only [Value.slice.injEq, Option.some.injEq, true_and] at h'
    obtain ⟨rfl, _⟩ := h'
    exact ⟨cur, hg⟩
theorem Typd.below {W W' : World} {A : Option Addr} {t : TypeId} (h : Typd W A t) (hb : Below W.heap.size W W') : Typd W' A t := fun a ha => (h a ha).elim fun cur hc => ⟨cur, blk_below hc hb⟩
theorem Typd.ne {W : World} {A : Option Addr} {t u : TypeId} {b : Nat} {cs : Array Value} (h : Typd W A t) (hb : W.heap[b]? = some (.cells cs u (0, 0))) (hne : t ≠ u) : ∀ a, A = some a → a.block ≠ b := by
  intro a ha e
  obtain ⟨cur, hc⟩ := h a ha
  rw [e, hb] at hc
  cases hc
  exact hne rfl
/-- An edit with room behind its lists. -/
structure Lent (W : World) (A0 : Option Addr) (c0 : Nat) (st : List S80) (A1 : Option Addr) (c1 : Nat) (d : List Int) (A2 : Option Addr) (c2 : Nat) (x : List Int) : Prop where
  s : Kd.C k80 W A0 (st ++ lentS).length (st ++ lentS)
  di : Kd.C (Kd.int .u8) W A1 (d ++ [73, 74]).length (d ++ [73, 74])
  ex : Kd.C (Kd.int .u8) W A2 (x ++ [75, 76]).length (x ++ [75, 76])
  hs : st.length + 2 ≤ c0
  hd : d.length + 2 ≤ c1
  hx : x.length + 2 ≤ c2
  t0 : Typd W A0 80
  t1 : Typd W A1 5
  t2 : Typd W A2 5
theorem own_C8 {W : World} {b n c : Nat} {A : Option Addr} {l : List Int} (h : W.ownsRow b 5 1 (.slice A n c) n (nums .u8 l)) : Kd.C (Kd.int .u8) W A l.length l := by
  obtain ⟨A', c', e, hr⟩ := own_reads h
  cases e
  have hl : l.length = n := by have := h.1; simp [nums] at this; exact this
  subst hl
  exact Kd.C_of_reads (enc := Value.int .u8) (d := (0 : Int)) (h1 := fun _ => rfl) hr
/-- What lend hands back. -/
theorem lend_fin {w W : World} {b2 nb : Nat} {A0 : Option Addr} {c0 : Nat} {st : List S80} {A1 : Option Addr} {c1 : Nat} {d : List Int} {A2 : Option Addr} {c2 : Nat} {x : List Int}
    (hT : W.heap[b2]? = some (.cells #[.slice none 0 0, .slice none 0 0, .slice none 0 0] 28 (0, 0))) (hb : w.heap.size ≤ b2) (hB : Below w.heap.size w W)
    (hS : W.ownsRow w.heap.size 80 3 (.slice A0 (st.length + 2) c0) (st.length + 2) (cells80 (st ++ lentS)))
    (hD : W.ownsRow nb 5 1 (.slice A1 (d.length + 2) c1) (d ++ [73, 74]).length (nums .u8 (d ++ [73, 74]))) (hX : W.ownsRow nb 5 1 (.slice A2 (x.length + 2) c2) (x ++ [75, 76]).length (nums .u8 (x ++ [75, 76])))
    (h0 : st.length + 2 ≤ c0) (h1 : d.length + 2 ≤ c1) (h2 : x.length + 2 ≤ c2) (s0 s1 s2 : Value) :
    (((W.setCell ⟨b2, 0, none⟩ s0).setCell ⟨b2, 1, none⟩ s1).setCell ⟨b2, 2, none⟩ s2).heap[b2]? = some (.cells #[s0, s1, s2] 28 (0, 0)) ∧
      Lent (((W.setCell ⟨b2, 0, none⟩ s0).setCell ⟨b2, 1, none⟩ s1).setCell ⟨b2, 2, none⟩ s2) A0 c0 st A1 c1 d A2 c2 x ∧ Below w.heap.size w (((W.setCell ⟨b2, 0, none⟩ s0).setCell ⟨b2, 1, none⟩ s1).setCell ⟨b2, 2, none⟩ s2) := by
  have e1 := blk_set hT 0 s0
  have e2 := blk_set e1 1 s1
  have e3 := blk_set e2 2 s2
  have hld : (d ++ [73, 74]).length = d.length + 2 := by simp
  have hlx : (x ++ [75, 76]).length = x.length + 2 := by simp
  rw [hld] at hD
  rw [hlx] at hX
  have nS := own_ne hS hT (by decide)
  have nD := own_ne hD hT (by decide)
  have nX := own_ne hX hT (by decide)
  have hS3 := own_setCell (own_setCell (own_setCell hS (p := ⟨b2, 0, none⟩) nS s0) (p := ⟨b2, 1, none⟩) nS s1) (p := ⟨b2, 2, none⟩) nS s2
  have hD3 := own_setCell (own_setCell (own_setCell hD (p := ⟨b2, 0, none⟩) nD s0) (p := ⟨b2, 1, none⟩) nD s1) (p := ⟨b2, 2, none⟩) nD s2
  have hX3 := own_setCell (own_setCell (own_setCell hX (p := ⟨b2, 0, none⟩) nX s0) (p := ⟨b2, 1, none⟩) nX s1) (p := ⟨b2, 2, none⟩) nX s2
  refine ⟨by simpa using e3, ⟨own_C80 hS3 (by simp [lentS]), own_C8 hD3, own_C8 hX3, h0, h1, h2, Typd.own hS3, Typd.own hD3, Typd.own hX3⟩, ((hB.setCell hb _).setCell hb _).setCell hb _⟩
end Go.Proofs.Ytemlbjpefomboaa
namespace Go.Proofs.Ytemlbjpefomboaa
open Go.RowKit Go.Shelf Go.Proofs.YtemlbjpefomboaaW.PrintWords Go.Proofs.YtemlbjpefomboaaW.PrintLast Go.Proofs.YtemlbjpefomboaaW.PrintMore Go.Proofs.Ytemlbjpefomboaa.Pr
set_option linter.unusedVariables false
set_option linter.unusedSimpArgs false
theorem room_run (W : World) (l ex : List Int) {A : Option Addr} {c : Nat} (hC : Kd.C (Kd.int .u8) W A l.length l) (hl : l.length ≤ 140737488351232) (hex : ex.length ≤ 100) :
    ∃ A6 c6 w1 A10 c10 w2, (Builtin.append_ #[25, 25] 25 #[.slice none 0 0, .slice A l.length c]).run Try.prog W = .ok (.slice A6 l.length c6) w1 ∧
      (Builtin.append_ #[25, 25] 25 #[.slice A6 l.length c6, .slice (some ⟨w1.heap.size, 0, none⟩) ex.length ex.length]).run Try.prog (w1.alloc (.cells (nums .u8 ex).toArray 5)) = .ok (.slice A10 (l.length + ex.length) c10) w2 ∧
      Kd.C (Kd.int .u8) w2 A10 (l ++ ex).length (l ++ ex) ∧ l.length + ex.length ≤ c10 ∧ Below W.heap.size W w1 ∧ Below W.heap.size W w2 := by
  obtain ⟨v1, w1, hr1, hb1, h1⟩ := (Rw.nil W W.heap.size).app0 (c := c) (Nat.le_refl _) 0 hC hl
  have ho1 := h1.own _ List.mem_cons_self
  simp only at ho1
  obtain ⟨A6, c6, rfl⟩ := own_slice ho1
  have h2 := h1.lit hb1.size 1 ex hex
  have hba : Below w1.heap.size w1 (w1.alloc (.cells (nums .u8 ex).toArray 5)) := (Below.refl _ _).alloc (Nat.le_refl _) _
  have h3 : Rw (w1.alloc (.cells (nums .u8 ex).toArray 5)) W.heap.size [⟨0, .slice A6 l.length c6, l⟩, ⟨1, .slice (some ⟨w1.heap.size, 0, none⟩) ex.length ex.length, ex⟩] := h2.sub (fun r hr => by simp only [List.mem_cons, List.not_mem_nil, or_false] at hr ⊢; exact hr.symm)
  obtain ⟨v2, w2, hr2, hb2, h4⟩ := Rw.app (w0 := W) (rows := []) ⟨0, .slice A6 l.length c6, l⟩ ⟨1, .slice (some ⟨w1.heap.size, 0, none⟩) ex.length ex.length, ex⟩ h3 (by simp) (fun t ht => by cases ht) (hb1.trans (hba.mono hb1.size)) (Nat.le_trans hb1.size hba.size) 2 rfl (by simp only; omega)
  have ho2 := h4.own _ List.mem_cons_self
  simp only [List.length_append] at ho2
  obtain ⟨A10, c10, rfl⟩ := own_slice ho2
  exact ⟨A6, c6, w1, A10, c10, w2, hr1, hr2, own_C8 ho2, own_le ho2, hb1, hb2⟩
end Go.Proofs.Ytemlbjpefomboaa
namespace Go.Proofs.Ytemlbjpefomboaa
open Go.RowKit Go.Shelf Go.Proofs.YtemlbjpefomboaaW.PrintWords Go.Proofs.YtemlbjpefomboaaW.PrintLast Go.Proofs.YtemlbjpefomboaaW.PrintMore Go.Proofs.Ytemlbjpefomboaa.Pr
set_option linter.unusedVariables false
set_option linter.unusedSimpArgs false
abbrev kB : Kd Int := Kd.int .u8
structure Sp (w W : World) (a : Value) (n : Nat) (b c : Value) (bs : List Int) : Prop where
  be : Below w.heap.size w W
  ra : ∃ xs : List Int, xs.length = n ∧ Kd.R kB 5 W w.heap.size (fun _ => True) a xs
  rb : Kd.R kB 5 W w.heap.size (fun k => True ∧ some k ≠ a.ownBlock) b bs
  rc : Kd.R kB 5 W w.heap.size (fun k => True ∧ some k ≠ a.ownBlock) c bs
theorem Sp.form {w W : World} {a : Value} {n : Nat} {b c : Value} {bs : List Int} (h : Sp w W a n b c bs) (hn : 0 < n) : ∃ g cap, a = .slice (some ⟨g, 0, none⟩) n cap := by
  obtain ⟨xs, hx, hr⟩ := h.ra
  obtain ⟨g, cap, he, _⟩ := Kd.R_form hr (by omega)
  exact ⟨g, cap, by rw [he, hx]⟩
theorem Sp.slice {w W : World} {a : Value} {n : Nat} {b c : Value} {bs : List Int} (h : Sp w W a n b c bs) : ∃ A cap, a = .slice A n cap := by
  obtain ⟨xs, hx, hr⟩ := h.ra
  obtain ⟨A, cap, he⟩ := Kd.R_slice hr
  exact ⟨A, cap, by rw [he, hx]⟩
theorem Sp.at_ {w W : World} {n g cap : Nat} {b c : Value} {bs : List Int} (h : Sp w W (.slice (some ⟨g, 0, none⟩) n cap) n b c bs) (i : Nat) (hi : i < n) : (∃ u, W.cell? ⟨g, i, none⟩ = some u) ∧ W.frozen? ⟨g, i, none⟩ = false := by
  obtain ⟨xs, rfl, hr⟩ := h.ra
  have := Kd.R_cell (d := (0 : Int)) hr (i : Int) (by omega) (by omega)
  simp only [Int.toNat_natCast] at this
  exact ⟨⟨_, this.1⟩, this.2⟩
theorem Sp.put {w W : World} {n g cap : Nat} {b c : Value} {bs : List Int} (h : Sp w W (.slice (some ⟨g, 0, none⟩) n cap) n b c bs) (i : Nat) (x : Int) : Sp w (W.setCell ⟨g, i, none⟩ (.int .u8 x)) (.slice (some ⟨g, 0, none⟩) n cap) n b c bs := by
  obtain ⟨xs, rfl, hr⟩ := h.ra
  have hp := Kd.R_put hr (i : Int) x
  simp only [Int.toNat_natCast] at hp
  refine ⟨h.be.setCell (Kd.R_base hr g rfl) _, ⟨xs.set i x, by simp, ?_⟩, Kd.R_grown h.rb hp.2 (fun k hk => hk.2), Kd.R_grown h.rc hp.2 (fun k hk => hk.2)⟩
  exact hp.1
theorem Sp.below {w W W' : World} {a : Value} {n : Nat} {b c : Value} {bs : List Int} (h : Sp w W a n b c bs) (hb : Below W.heap.size W W') : Sp w W' a n b c bs := by
  obtain ⟨xs, hx, hr⟩ := h.ra
  exact ⟨below_step h.be hb, ⟨xs, hx, Kd.R_below hr hb⟩, Kd.R_below h.rb hb, Kd.R_below h.rc hb⟩
theorem Sp.push {w W : World} {a : Value} {n : Nat} {b c : Value} {bs : List Int} (h : Sp w W a n b c bs) (x : Int) (hn : n ≤ 140737488351232) :
    ∃ A cap w', (Builtin.append_ #[25, 25] 25 #[a, .slice (some ⟨W.heap.size, 0, none⟩) 1 1]).run Try.prog (W.alloc (.cells #[.int .u8 x] 5)) = .ok (.slice A (n + 1) cap) w' ∧ Sp w w' (.slice A (n + 1) cap) (n + 1) b c bs := by
  obtain ⟨xs, rfl, hr⟩ := h.ra
  have hba : Below W.heap.size W (W.alloc (.cells #[.int .u8 x] 5)) := (Below.refl _ _).alloc (Nat.le_refl _) _
  have ho := Kd.own_of_R (Kd.R_below hr hba)
  obtain ⟨v', w', hrun, ho', hg, hp, _⟩ := run_app (P := Try.prog) (W.alloc (.cells #[.int .u8 x] 5)) w.heap.size 25 25 5 (.int .u8 0) 1 1 eltB a xs.length _ ho (some ⟨W.heap.size, 0, none⟩) 1 1 [.int .u8 x] (Src.one W _ _ rfl) (by omega) (Nat.le_trans h.be.size hba.size)
  obtain ⟨A, cap, rfl⟩ := own_slice ho'
  have hat : (Value.slice A (xs.length + 1) cap).ownBlock = a.ownBlock ∨ ∃ b, (Value.slice A (xs.length + 1) cap).ownBlock = some b ∧ (W.alloc (.cells #[.int .u8 x] 5)).heap.size ≤ b := by
    rcases hp.block with e | e
    · exact .inl e
    · exact .inr ⟨_, e, Nat.le_refl _⟩
  refine ⟨A, cap, w', hrun, (below_step h.be hba).grown hg (Nat.le_trans h.be.size hba.size) (own_base ho), ⟨xs ++ [x], by simp, ?_⟩, Kd.R_after (Kd.R_below h.rb hba) hg hat, Kd.R_after (Kd.R_below h.rc hba) hg hat⟩
  refine Kd.R_of_own ?_ (fun _ _ => trivial)
  rw [List.length_append, List.length_cons, List.length_nil, encs_append]
  exact ho'
end Go.Proofs.Ytemlbjpefomboaa
