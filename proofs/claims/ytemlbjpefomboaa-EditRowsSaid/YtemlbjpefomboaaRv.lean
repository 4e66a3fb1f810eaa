/- edit: Reverse, by contract. -/
import Derived.Test.YtemlbjpefomboaaVs
import Derived.Test.YtemlbjpefomboaaRp
namespace Go.Proofs.Ytemlbjpefomboaa
open Go.RowKit Go.Shelf Go.Proofs.YtemlbjpefomboaaW.PrintWords Go.Proofs.YtemlbjpefomboaaW.PrintLast Go.Proofs.YtemlbjpefomboaaW.PrintMore Go.Proofs.Ytemlbjpefomboaa.Pr
set_option linter.unusedVariables false
set_option linter.unusedSimpArgs false
attribute [local go_sem] Oper.semAt_some
/-- What the j-th origin does to what leads back. -/
def stepB (j : Nat) (o : S94) (B : List S94) : List S94 := if o.f0 = true ∧ (B.getD o.f1.toNat z94).f0 = false then B.set o.f1.toNat ⟨true, j, (-o.f2) % 256⟩ else B
def backN (A B : List S94) : Nat → List S94
  | 0 => B
  | j + 1 => stepB j (A.getD j z94) (backN A B j)
def back0 (old : List Int) : List S94 := old.map (fun b => (⟨false, 0, b⟩ : S94))
/-- What Reverse answers. -/
def reverseE (old : List Int) (st : List S80) (d x : List Int) : List S80 × List Int × List Int × Int :=
  if appliedE old st d x ≠ 0 then ([], [], [], appliedE old st d x) else normOf (backN (og st d x 0) (back0 old) (og st d x 0).length)
theorem stepB_len (j : Nat) (o : S94) (B : List S94) : (stepB j o B).length = B.length := by
  unfold stepB
  split <;> simp
theorem backN_len (A B : List S94) : ∀ j, (backN A B j).length = B.length
  | 0 => rfl
  | j + 1 => by rw [backN, stepB_len, backN_len A B j]
theorem cells94_set : ∀ (L : List S94) (k : Nat) (o : S94), k < L.length → (((cells94 L).set (k * 3) (.bool (!o.f0))).set (k * 3 + 1) (.int .i64 o.f1)).set (k * 3 + 2) (.int .u8 o.f2) = cells94 (L.set k o)
  | [], _, _, h => by simp at h
  | a :: L, 0, o, _ => by simp [cells94, cell94]
  | a :: L, k + 1, o, h => by
    have ih := cells94_set L k o (by simpa using h)
    have e : ∀ (b : S94) (M : List S94), cells94 (b :: M) = .bool (!b.f0) :: .int .i64 b.f1 :: .int .u8 b.f2 :: cells94 M := fun _ _ => rfl
    rw [List.set_cons_succ, e, e, ← ih, show (k + 1) * 3 = k * 3 + 1 + 1 + 1 by omega, show k * 3 + 1 + 1 + 1 + 1 = (k * 3 + 1) + 1 + 1 + 1 by omega, show k * 3 + 1 + 1 + 1 + 2 = (k * 3 + 2) + 1 + 1 + 1 by omega]
    simp only [List.set_cons_succ]
theorem own_set94 {W : World} {base g n cap : Nat} {L : List S94} (h : W.ownsRow base 89 3 (.slice (some ⟨g, 0, none⟩) n cap) n (cells94 L)) (k : Nat) (hk : k < L.length) (o : S94) :
    (((W.setCell ⟨g, k * 3, none⟩ (.bool (!o.f0))).setCell ⟨g, k * 3 + 1, none⟩ (.int .i64 o.f1)).setCell ⟨g, k * 3 + 2, none⟩ (.int .u8 o.f2)).ownsRow base 89 3 (.slice (some ⟨g, 0, none⟩) n cap) n (cells94 (L.set k o)) := by
  have h3 := (World.ownsRow.stored (World.ownsRow.stored (World.ownsRow.stored h (k * 3) (.bool (!o.f0))).1 (k * 3 + 1) (.int .i64 o.f1)).1 (k * 3 + 2) (.int .u8 o.f2)).1
  rw [cells94_set L k o hk] at h3
  exact h3
theorem cells_g {W : World} {base g n cap : Nat} {L : List S94} (h : W.ownsRow base 89 3 (.slice (some ⟨g, 0, none⟩) n cap) n (cells94 L)) (hl : L.length = n) {k : Nat} (hk : k < n) :
    W.cell? ⟨g, k * 3, none⟩ = some (.bool (!(L.getD k z94).f0)) ∧ W.cell? ⟨g, k * 3 + 1, none⟩ = some (.int .i64 (L.getD k z94).f1) ∧ W.cell? ⟨g, k * 3 + 2, none⟩ = some (.int .u8 (L.getD k z94).f2) := by
  have hc := fun j (hj : j < 3) => (World.ownsRow.cellAt h (k * 3 + j) (by omega)).trans (cells94_get L k j (by omega) hj)
  exact ⟨hc 0 (by omega), hc 1 (by omega), hc 2 (by omega)⟩
theorem made94 (n : Nat) : (madeCells (Value.agg #[.bool false, .int .i64 0, .int .u8 0]).cells (n * 3)).toList = cells94 (List.replicate n (⟨true, 0, 0⟩ : S94)) := by
  apply List.ext_getElem?
  intro i
  by_cases hi : i < n * 3
  · have hk : i / 3 < (List.replicate n (⟨true, 0, 0⟩ : S94)).length := by rw [List.length_replicate]; omega
    have h := cells94_get (List.replicate n (⟨true, 0, 0⟩ : S94)) (i / 3) (i % 3) hk (Nat.mod_lt _ (by omega))
    rw [show i / 3 * 3 + i % 3 = i by omega] at h
    have hg : (List.replicate n (⟨true, 0, 0⟩ : S94)).getD (i / 3) z94 = ⟨true, 0, 0⟩ := by
      rw [List.getD_eq_getElem?_getD, List.getElem?_eq_getElem hk]
      simp
    rw [h, hg]
    have h3 := Nat.mod_lt i (show 0 < 3 by omega)
    have hm : (madeCells (Value.agg #[.bool false, .int .i64 0, .int .u8 0]).cells (n * 3)).toList[i]? = some ((#[Value.bool false, .int .i64 0, .int .u8 0] : Array Value)[i % 3]!) := by
      simp [madeCells, hi, Value.cells]
    rw [hm]
    match hj : i % 3, h3 with
    | 0, _ => rfl
    | 1, _ => rfl
    | 2, _ => rfl
  · rw [List.getElem?_eq_none (by simp [madeCells]; omega), List.getElem?_eq_none (by rw [cells94_len, List.length_replicate]; omega)]
/-- What is filled in so far. -/
def fillN (old : List Int) (i : Nat) : List S94 := back0 (old.take i) ++ List.replicate (old.length - i) (⟨true, 0, 0⟩ : S94)
theorem fillN_len (old : List Int) {i : Nat} (h : i ≤ old.length) : (fillN old i).length = old.length := by
  unfold fillN back0
  simp
  omega
theorem fillN_all (old : List Int) : fillN old old.length = back0 old := by
  unfold fillN
  simp
theorem fillN_set (old : List Int) {i : Nat} (h : i < old.length) : (fillN old i).set i ⟨false, 0, rd old i⟩ = fillN old (i + 1) := by
  unfold fillN back0
  have hr : rd old (i : Int) = old[i] := by simp [rd, List.getD_eq_getElem?_getD, List.getElem?_eq_getElem h]
  have hl : ((old.take i).map (fun b => (⟨false, 0, b⟩ : S94))).length = i := by rw [List.length_map, List.length_take]; omega
  rw [List.take_succ_eq_append_getElem h, List.map_append, hr, show old.length - i = (old.length - (i + 1)) + 1 by omega, List.replicate_succ, List.set_append, if_neg (by omega), hl, Nat.sub_self]
  simp
structure RV (w0 : World) (b8 b11 g n : Nat) (A B : List S94) (X : List (Nat × Obj)) (i : Nat) (W : World) : Prop where
  bx : W.heap[b8]? = some (.cells #[.slice (some ⟨g, 0, none⟩) n n] 100 (0, 0))
  row : W.ownsRow w0.heap.size 89 3 (.slice (some ⟨g, 0, none⟩) n n) n (cells94 (backN A B i))
  ct : W.heap[b11]? = some (.cells #[.int .i64 i] 3 (0, 0))
  fx : ∀ q ∈ X, W.heap[q.1]? = some q.2 ∧ q.2.isCells = true ∧ q.1 ≠ b8 ∧ q.1 ≠ b11 ∧ q.1 ≠ g
  be : Below w0.heap.size w0 W
theorem RV.bk {w0 : World} {b8 b11 g n k : Nat} {A B : List S94} {X : List (Nat × Obj)} {i : Nat} {W W' : World} (h : RV w0 b8 b11 g n A B X i W) (hn : w0.heap.size ≤ k) (hb : Bk k W W') : RV w0 b8 b11 g n A B X i W' :=
  ⟨hb.block _ _ h.bx (.inl rfl), own_bk h.row hb, hb.block _ _ h.ct (.inl rfl), fun q hq => by obtain ⟨h1, h2, h3⟩ := h.fx q hq; exact ⟨hb.block _ _ h1 (.inl h2), h2, h3⟩, Bk.below h.be h.be.size (hb.more hn)⟩
theorem RV.grow {w0 : World} {b8 b11 g n : Nat} {A B : List S94} {X : List (Nat × Obj)} {i : Nat} {W : World} (h : RV w0 b8 b11 g n A B X i W) (o : Obj) (ho : o.isCells = true) : RV w0 b8 b11 g n A B ((W.heap.size, o) :: X) i (W.alloc o) :=
  ⟨blk_alloc h.bx o, pw_own_below h.row ((Below.refl _ _).alloc (Nat.le_refl _) _), blk_alloc h.ct o, fun q hq => by
    have h8 := blk_lt h.bx
    have h11 := blk_lt h.ct
    have hg := own_lt h.row g rfl
    rcases List.mem_cons.1 hq with rfl | hq
    · exact ⟨blk_new W o, ho, by simp only; omega, by simp only; omega, by simp only; omega⟩
    · obtain ⟨h1, h2, h3⟩ := h.fx q hq
      exact ⟨blk_alloc h1 o, h2, h3⟩, h.be.alloc h.be.size _⟩
theorem RV.less {w0 : World} {b8 b11 g n : Nat} {A B : List S94} {q : Nat × Obj} {X : List (Nat × Obj)} {i : Nat} {W : World} (h : RV w0 b8 b11 g n A B (q :: X) i W) : RV w0 b8 b11 g n A B X i W :=
  ⟨h.bx, h.row, h.ct, fun p hp => h.fx p (List.mem_cons_of_mem _ hp), h.be⟩
/-- The count goes on. -/
theorem RV.count {w0 : World} {b8 b11 g n : Nat} {A B : List S94} {X : List (Nat × Obj)} {i : Nat} {W : World} (h : RV w0 b8 b11 g n A B X i W) (hb : w0.heap.size ≤ b11) (h8 : b8 ≠ b11) (hg : g ≠ b11) (hs : backN A B (i + 1) = backN A B i) : RV w0 b8 b11 g n A B X (i + 1) (W.setCell ⟨b11, 0, none⟩ (.int .i64 ((i + 1 : Nat) : Int))) :=
  ⟨blk_far (p := ⟨b11, 0, none⟩) h.bx h8 _, by rw [hs]; exact own_setCell (p := ⟨b11, 0, none⟩) h.row (by simp [Value.ownBlock]; exact fun e => hg e.symm) _, by have := blk_set h.ct 0 (.int .i64 ((i + 1 : Nat) : Int)); simpa using this,
    fun q hq => by obtain ⟨h1, h2, h3, h4, h5⟩ := h.fx q hq; exact ⟨(Below.heap_setCell W ⟨b11, 0, none⟩ _ q.1 h4).trans h1, h2, h3, h4, h5⟩, h.be.setCell hb _⟩
theorem RV.put {w0 : World} {b8 b11 g n : Nat} {A B : List S94} {X : List (Nat × Obj)} {i k : Nat} {W : World} {o : S94} (h : RV w0 b8 b11 g n A B X i W) (hb : w0.heap.size ≤ b11) (h8 : b8 ≠ b11) (hg : g ≠ b11) (hg8 : g ≠ b8) (hwg : w0.heap.size ≤ g) (hk : k < (backN A B i).length)
    (hs : backN A B (i + 1) = (backN A B i).set k o) : RV w0 b8 b11 g n A B X (i + 1) ((((W.setCell ⟨g, k * 3, none⟩ (.bool (!o.f0))).setCell ⟨g, k * 3 + 1, none⟩ (.int .i64 o.f1)).setCell ⟨g, k * 3 + 2, none⟩ (.int .u8 o.f2)).setCell ⟨b11, 0, none⟩ (.int .i64 ((i + 1 : Nat) : Int))) := by
  have far : ∀ (q : Nat) (j : Nat) (W : World) (v : Value), q ≠ g → (W.setCell ⟨g, j, none⟩ v).heap[q]? = W.heap[q]? := fun q j W v e => Below.heap_setCell W ⟨g, j, none⟩ v q e
  have h8' := (far b8 (k * 3 + 2) _ (.int .u8 o.f2) hg8.symm).trans ((far b8 (k * 3 + 1) _ (.int .i64 o.f1) hg8.symm).trans ((far b8 (k * 3) W (.bool (!o.f0)) hg8.symm).trans h.bx))
  have h11 := (far b11 (k * 3 + 2) _ (.int .u8 o.f2) hg.symm).trans ((far b11 (k * 3 + 1) _ (.int .i64 o.f1) hg.symm).trans ((far b11 (k * 3) W (.bool (!o.f0)) hg.symm).trans h.ct))
  have hr := own_set94 h.row k hk o
  rw [← hs] at hr
  exact ⟨blk_far (p := ⟨b11, 0, none⟩) h8' h8 _, own_setCell (p := ⟨b11, 0, none⟩) hr (by simp [Value.ownBlock]; exact fun e => hg e.symm) _, by have := blk_set h11 0 (.int .i64 ((i + 1 : Nat) : Int)); simpa using this,
    fun q hq => by
      obtain ⟨h1, h2, h3, h4, h5⟩ := h.fx q hq
      exact ⟨(Below.heap_setCell _ ⟨b11, 0, none⟩ _ q.1 h4).trans ((far q.1 _ _ _ h5).trans ((far q.1 _ _ _ h5).trans ((far q.1 _ _ _ h5).trans h1))), h2, h3, h4, h5⟩, (((h.be.setCell hwg _).setCell hwg _).setCell hwg _).setCell hb _⟩
theorem appliedE_ok0 {old : List Int} {st : List S80} {d x : List Int} (h : appliedE old st d x = 0) : old.length ≤ 16777216 ∧ (ited st d x).2 = 0 := by
  unfold appliedE at h
  by_cases h1 : 16777216 < (old.length : Int)
  · rw [if_pos h1] at h; cases h
  rw [if_neg h1] at h
  by_cases h2 : (ited st d x).2 = 0
  · exact ⟨by omega, h2⟩
  · rw [if_pos h2] at h; exact absurd h h2
theorem normR_gen {w w2 w3 Wf : World} {v0 v1 v2 : Value} {l0 : List S80} {l1 l2 : List Int} {c : Int} (hs : w.heap.size ≤ w2.heap.size) (hbe : Below w.heap.size w Wf)
    (r0 : Kd.R k80 80 w3 w2.heap.size (fun _ => True) v0 l0) (r1 : Kd.R (Kd.int .u8) 5 w3 w2.heap.size (fun k_ => some k_ ≠ (v2 : Value).ownBlock) v1 l1) (r2 : Kd.R (Kd.int .u8) 5 w3 w2.heap.size (fun k_ => some k_ ≠ (v1 : Value).ownBlock) v2 l2)
    (hk : ∀ k, w2.heap.size ≤ k → k < w3.heap.size → Wf.heap[k]? = w3.heap[k]?) : NormR w (l0, l1, l2, c) (.returned (.tuple #[.agg #[v0, v1, v2], .int .i64 c])) Wf :=
  ⟨v0, v1, v2, rfl, Kd.R_lower (Kd.R_mono (Kd.R_step (Kd.R_bound r0) (fun k h _ => hk k h.2.1 h.2.2.1)) (fun k h => h.1)) hs, Kd.R_lower (Kd.R_mono (Kd.R_step (Kd.R_bound r1) (fun k h _ => hk k h.2.1 h.2.2.1)) (fun k h => h.1)) hs,
    Kd.R_lower (Kd.R_mono (Kd.R_step (Kd.R_bound r2) (fun k h _ => hk k h.2.1 h.2.2.1)) (fun k h => h.1)) hs, hbe⟩
theorem leaveRv {tmps : Array Value} {W : World} {R : Ending → World → Prop} {b : Nat} {v0 v1 v2 : Value} {u : Value} (h4 : tmps.getD 4 undef = .pointer (some ⟨b, 0, none⟩)) (h5 : tmps.getD 5 undef = u)
    (g : W.heap[b]? = some (.cells #[v0, v1, v2] 28 (0, 0))) (h : R (.returned (.tuple #[.agg #[v0, v1, v2], u])) W) :
    LeavesInM Fence.wide 0 Try.prog Try.f42 tmps R [] .returning W := by
  refine ⟨.tuple #[.agg #[v0, v1, v2], u], ?_, h⟩
  have h4' : tmps[4]?.getD undef = .pointer (some ⟨b, 0, none⟩) := by simpa using h4
  have h5' : tmps[5]?.getD undef = u := by simpa using h5
  have g0 : W.cell? ⟨b, 0, none⟩ = some v0 := (blk_cell g 0).trans rfl
  have g1 : W.cell? ⟨b, 1, none⟩ = some v1 := (blk_cell g 1).trans rfl
  have g2 : W.cell? ⟨b, 2, none⟩ = some v2 := (blk_cell g 2).trans rfl
  simp [results, Try.results42, go_sem, h4', h5', g0, g1, g2]
set_option maxRecDepth 100000 in
set_option maxHeartbeats 8000000 in
theorem reverse_c {Ao : Option Addr} {co : Nat} {old : List Int} {A0 : Option Addr} {c0 : Nat} {st : List S80} {A1 : Option Addr} {c1 : Nat} {d : List Int} {A2 : Option Addr} {c2 : Nat} {x : List Int} {w : World}
    (hO : Kd.C (Kd.int .u8) w Ao old.length old) (hoc : old.length ≤ co) (hE : EdC w A0 c0 st A1 c1 d A2 c2 x) (hf : st.length ≤ 34359738368) :
    Calls Try.prog 42 #[.slice Ao old.length co, EdV A0 st.length c0 A1 d.length c1 A2 x.length c2] w (NormR w (reverseE old st d x)) := by
  unfold EdV
  obtain ⟨w0, hw0⟩ : ∃ w_, (w.alloc (.cells #[.slice A0 st.length c0, .slice A1 d.length c1, .slice A2 x.length c2] 28)).alloc (.cells #[.slice none 0 0, .slice none 0 0, .slice none 0 0] 28) = w_ := ⟨_, rfl⟩
  have hb0 : Below w.heap.size w w0 := by
    rw [← hw0]
    exact ((Below.refl _ _).alloc (Nat.le_refl _) _).alloc (by simp) _
  have hY : w0.heap[w.heap.size]? = some (.cells #[.slice A0 st.length c0, .slice A1 d.length c1, .slice A2 x.length c2] 28 (0, 0)) := by
    rw [← hw0]
    exact blk_alloc (blk_new w _) _
  have hT : w0.heap[w.heap.size + 1]? = some (.cells #[.slice none 0 0, .slice none 0 0, .slice none 0 0] 28 (0, 0)) := by
    rw [← hw0]
    have := blk_new (w.alloc (.cells #[.slice A0 st.length c0, .slice A1 d.length c1, .slice A2 x.length c2] 28)) (.cells #[.slice none 0 0, .slice none 0 0, .slice none 0 0] 28)
    rwa [World.size_alloc] at this
  have HE := Hd.mk (hE.below hb0)
  have HO := Hd.mk (Kd.C_below hO hb0)
  have HB := Hd.mk hb0
  have HY := Hd.mk hY
  have HT := Hd.mk hT
  have HEw := Hd.mk hE
  have hap := apply_c Ao co old A0 c0 st A1 c1 d A2 c2 x w0 HO.out hoc HE.out (inn_applied2 hf)
  obtain ⟨q, hq⟩ : ∃ q, reverseE old st d x = q := ⟨_, rfl⟩
  rw [hq]
  unfold reverseE at hq
  obtain ⟨er, her⟩ : ∃ e, appliedE old st d x = e := ⟨_, rfl⟩
  rw [her] at hap hq
  unfold EdV at hap
  have HAP := Hd.mk hap
  have HQ := Hd.mk hq
  have HER := Hd.mk her
  have HF := Hd.mk hf
  have HOC := Hd.mk hoc
  clear hb0 hE hO hY hT hap hq her hf hoc
  refine callsIn_wide.1 (callsIn_of_wp_marks (n := 0) Try.func42 rfl trivial (wpIn_wide.2 ?_) rfl)
  simp only [Try.ntmps42, List.size_toArray, List.length_cons, List.length_nil, Nat.reduceAdd, Nat.reduceSub, Array.replicate_succ, Array.replicate_zero, List.push_toArray, List.append_toArray, List.nil_append, List.cons_append]
  have cHY0 := blk_cell HY.out 0
  have cHY1 := blk_cell HY.out 1
  have cHY2 := blk_cell HY.out 2
  have cHT0 := blk_cell HT.out 0
  have cHT1 := blk_cell HT.out 1
  have cHT2 := blk_cell HT.out 2
  simp at cHY0 cHY1 cHY2 cHT0 cHT1 cHT2
  go_wp2_with fail
  refine HAP.out.mono ?_
  rintro e w1 ⟨va, rfl, _, hb1⟩
  clear HAP hw0
  clear cHY0 cHY1 cHY2 cHT0 cHT1 cHT2
  replace HB := Hd.mk (below_step HB.out hb1)
  replace HE := Hd.mk (HE.out.below hb1)
  replace HO := Hd.mk (Kd.C_below HO.out hb1)
  replace HY := Hd.mk (blk_below HY.out hb1)
  replace HT := Hd.mk (blk_below HT.out hb1)
  have cHY0 := blk_cell HY.out 0
  have cHY1 := blk_cell HY.out 1
  have cHY2 := blk_cell HY.out 2
  have cHT0 := blk_cell HT.out 0
  have cHT1 := blk_cell HT.out 1
  have cHT2 := blk_cell HT.out 2
  simp at cHY0 cHY1 cHY2 cHT0 cHT1 cHT2
  clear hb1
  by_cases h0 : er = 0
  rotate_left
  · have hne : (er != 0) = true := by simpa using h0
    have hn := HQ.out
    rw [if_pos h0] at hn
    have f0 := blk_frozen HT.out 0
    have f1 := blk_frozen HT.out 1
    have f2 := blk_frozen HT.out 2
    have HN := Hd.mk hn
    have H0 := Hd.mk h0
    clear h0 hn HQ
    go_wp2
    refine leaveRv (b := w.heap.size + 1) (v0 := .slice none 0 0) (v1 := .slice none 0 0) (v2 := .slice none 0 0) rfl rfl (blk3 HT.out _ _ _) ?_
    rw [← HN.out]
    exact normR_bad (by omega) HB.out _ _ _
  subst h0
  have hn := HQ.out
  rw [if_neg (by simp)] at hn
  have HN := Hd.mk hn
  have hk := appliedE_ok0 HER.out
  have HK := Hd.mk hk
  have HINN := Hd.mk (inn_applied2 HF.out HER.out)
  clear hn HQ hk
  obtain ⟨i0, hi, hz0, hz1, hz2⟩ := info_parts eltO.hi
  obtain ⟨n, hn⟩ : ∃ n, old.length = n := ⟨_, rfl⟩
  have hn24 : n ≤ 16777216 := by rw [← hn]; exact HK.out.1
  obtain ⟨w2, hmk, hr2, hg2⟩ := run_make_full (P := Try.prog) w1 w.heap.size 100 89 i0 (.agg #[.bool false, .int .i64 0, .int .u8 0]) 3 eltO.ht hi hz0 hz1 .i64 .i64 n (by rw [hz2]; omega) (by simp only [maxLen]; omega) HB.out.size
  rw [made94] at hr2
  have hb2 : Below w1.heap.size w1 w2 := (Below.refl _ _).grown hg2 (Nat.le_refl _) (fun k e => by cases e)
  have hgl := own_lt hr2 w1.heap.size (by simp [Value.ownBlock])
  have HR := Hd.mk hr2
  have hsz1 := HB.out.size
  obtain ⟨g, hg⟩ : ∃ g, w1.heap.size = g := ⟨_, rfl⟩
  rw [hg] at hmk hgl HR hsz1
  have hTg := blk_lt HT.out
  rw [hg] at hTg
  have hbm := hb2.alloc hb2.size (.cells #[.slice (some ⟨g, 0, none⟩) n n] 100)
  have hb8 : w2.heap.size ≠ g := by omega
  have h8 := blk_new w2 (.cells #[.slice (some ⟨g, 0, none⟩) n n] 100)
  have hrm := pw_own_below HR.out ((Below.refl w2.heap.size w2).alloc (Nat.le_refl _) (.cells #[.slice (some ⟨g, 0, none⟩) n n] 100))
  have hfil : List.replicate n (⟨true, 0, 0⟩ : S94) = fillN old 0 := by unfold fillN back0; rw [hn]; simp
  rw [hfil] at hrm
  obtain ⟨wm, hwm⟩ : ∃ v, w2.alloc (.cells #[.slice (some ⟨g, 0, none⟩) n n] 100) = v := ⟨_, rfl⟩
  have H8 := Hd.mk h8
  have HRM := Hd.mk hrm
  have HBM := Hd.mk hbm
  rw [hwm] at H8 HRM HBM
  have HG8 := Hd.mk hb8
  obtain ⟨b8, hb8e⟩ : ∃ b, w2.heap.size = b := ⟨_, rfl⟩
  rw [hb8e] at H8 HG8
  have HW2 := Hd.mk (show w1.heap.size ≤ b8 by rw [← hb8e]; omega)
  have HG1 := Hd.mk hg
  have HTG := Hd.mk hTg
  clear hr2 hg2 hi hz0 hz1 hz2 hb2 hg hbm h8 hrm hfil hb8 HR hTg
  clear cHY0 cHY1 cHY2 cHT0 cHT1 cHT2
  subst hn
  go_wp2
  try rw [hwm]
  try rw [hb8e]
  clear hwm hb8e hmk
  go_loopg [28] old.length (fun k v28 W => ∃ i : Nat, v28 = .int .i64 i ∧ i + k = old.length ∧ Hd (W.ownsRow w.heap.size 89 3 (.slice (some ⟨g, 0, none⟩) old.length old.length) old.length (cells94 (fillN old i))) ∧
    Hd (W.heap[b8]? = some (.cells #[.slice (some ⟨g, 0, none⟩) old.length old.length] 100 (0, 0))) ∧ Hd (Below w1.heap.size w1 W))
  case atStart => exact ⟨0, rfl, by omega, HRM, H8, HBM⟩
  case round =>
    clear HRM H8 HBM
    obtain ⟨i, rfl, hk, HR, H8, HBM⟩ := hrel
    have c8 := blk_cell H8.out 0
    simp at c8
    rcases gk with _ | gk
    · have hlt : decide ((i : Int) < (old.length : Int)) = false := decide_eq_false (by omega)
      obtain rfl : i = old.length := by omega
      replace HB := Hd.mk (below_step HB.out HBM.out)
      replace HE := Hd.mk (HE.out.below HBM.out)
      replace HO := Hd.mk (Kd.C_below HO.out HBM.out)
      replace HY := Hd.mk (blk_below HY.out HBM.out)
      replace HT := Hd.mk (blk_below HT.out HBM.out)
      have cHY0 := blk_cell HY.out 0
      have cHY1 := blk_cell HY.out 1
      have cHY2 := blk_cell HY.out 2
      have cHT0 := blk_cell HT.out 0
      have cHT1 := blk_cell HT.out 1
      have cHT2 := blk_cell HT.out 2
      simp at cHY0 cHY1 cHY2 cHT0 cHT1 cHT2
      have hbs := HBM.out.size
      have hHY := blk_lt HY.out
      have hHT := blk_lt HT.out
      have hH8 := blk_lt H8.out
      go_wp2_with fail
      have hba : Below wr.heap.size wr (wr.alloc (.cells #[.int .i64 0] 3)) := (Below.refl _ _).alloc (Nat.le_refl _) _
      refine (origins_calls A0 c0 st A1 c1 d A2 c2 x _ (HE.out.below hba)).mono ?_
      rintro e w4 ⟨Be, rfl, hEB, hb4, hBe⟩
      have h8 := blk_below (blk_below H8.out hba) hb4
      have h11 := blk_below (blk_new wr (.cells #[.int .i64 0] 3)) hb4
      have hr4 := pw_own_below (pw_own_below HR.out hba) hb4
      have hT4 := blk_below (blk_below HT.out hba) hb4
      have hbe := below_step (below_step HB.out hba) hb4
      have hgr := own_lt HR.out g (by simp [Value.ownBlock])
      rw [World.size_alloc] at hBe
      rw [fillN_all] at hr4
      have htg := HTG.out
      have hw2 := HW2.out
      have hg1 := HG1.out
      have hg8 := HG8.out
      have hbw := HB.out.size
      obtain ⟨L, hL⟩ : ∃ L, og st d x 0 = L := ⟨_, rfl⟩
      have hin := HINN.out
      have hie := HK.out.2
      have hn := HN.out
      have hlf := og_fit hie
      have h1 := ited_all hie
      rw [hL] at hin hn hlf
      obtain ⟨b11, hb11⟩ : ∃ b, wr.heap.size = b := ⟨_, rfl⟩
      rw [hb11] at h11 hBe hgr hHY hHT hH8 hbw ⊢
      have HA0 : Hd (RV w b8 b11 g old.length L (back0 old) ([] ++ [(Be, .cells #[.slice A0 st.length c0, .slice A1 d.length c1, .slice A2 x.length c2] 28), (w.heap.size + 1, .cells #[.slice none 0 0, .slice none 0 0, .slice none 0 0] 28)]) 0 w4) := ⟨h8, hr4, h11, fun q hq => by
        simp only [List.nil_append, List.mem_cons, List.not_mem_nil, or_false] at hq
        rcases hq with rfl | rfl
        · exact ⟨hEB.b, rfl, by simp only; omega, by simp only; omega, by simp only; omega⟩
        · exact ⟨hT4, rfl, by simp only; omega, by simp only; omega, by simp only; omega⟩, hbe⟩
      have HL := Hd.mk hL
      have HIN := Hd.mk hin
      have HNN := Hd.mk hn
      have H1 := Hd.mk h1
      have hb11w : w.heap.size ≤ b11 := by omega
      have hwg : w.heap.size ≤ g := by omega
      have h8n : b8 ≠ b11 := by omega
      have hgn : g ≠ b11 := by omega
      have hw4 := hbe.size
      have HEw' := HEw
      have hT4l := blk_lt hT4
      clear h8 h11 hr4 hT4 hbe hL hin hn h1 hEB hb4 hba HE HO HR H8 HBM HINN HN
      clear HB HY HT
      go_wp2_with fail
      refine (wpIn_wide (n := 0)).1 ?_
      refine wp_rangeX (F := Fence.wide) rfl rfl (gf := 68) (lb := #[.pointer (some ⟨Be, 0, none⟩)]) rfl trivial (enters_of Try.func68 (by kernel_rfl) rfl) (fun i => #[enc89 (L.getD i z94)]) (fun _ => rfl) L.length
        (fun X i W => RV w b8 b11 g old.length L (back0 old) (X ++ [(Be, .cells #[.slice A0 st.length c0, .slice A1 d.length c1, .slice A2 x.length c2] 28), (w.heap.size + 1, .cells #[.slice none 0 0, .slice none 0 0, .slice none 0 0] 28)]) i W) (fun _ _ => False) (fun _ _ => False) (.inl fun _ _ h => h)
        HA0.out (fun X i W W' h k => h.bk hw4 k) (fun X i W o ho h => h.grow o ho) (fun _ _ _ h _ => h) (fun _ _ _ h _ => h) ?seq ?round ?done (fun _ _ _ _ h _ => h.elim) (fun _ _ _ _ h _ => h.elim)
      case seq =>
        intro l W1 J Jx Jp hb1 hl hl2 hJI hGr hst _ _ hY h0
        have := org1_in (fun _ => True) trivial l Be W1.heap.size A0 c0 st A1 c1 d A2 c2 x J Jx Jp H1.out.1 H1.out.2.2.1 H1.out.2.2.2.1 (fun X i W hJ => by
          have h := hJI X i W hJ
          refine ⟨⟨(h.fx _ (List.mem_append_right _ List.mem_cons_self)).1, HEw.out.below h.be⟩, fun q hq => (h.fx q (List.mem_append_left _ hq)).1⟩) hGr hst (by rw [HL.out]; exact hY) W1 h0
        rw [HL.out] at this
        exact this
      case round =>
        rintro X l o i W hi hA hl ho hc
        obtain ⟨⟨fr, at_, by_⟩, hg⟩ : ∃ r, L.getD i z94 = r := ⟨_, rfl⟩
        simp only [hg]
        dsimp only [enc89]
        have HG := Hd.mk hg
        have HA := Hd.mk hA
        clear hg hA ho
        gi_wp2
        refine ⟨KeepsOthers.alloc _ _, fun W2 hb2 => ?_⟩
        have hA2 := (HA.out.grow (.cells #[.bool (!fr), .int .i64 at_, .int .u8 by_] 89) rfl).bk hw4 hb2
        have h9 := (hA2.fx _ (List.mem_cons_self)).1
        have c90 := blk_cell h9 0
        have c91 := blk_cell h9 1
        have c92 := blk_cell h9 2
        have c8 := blk_cell hA2.bx 0
        have c11 := blk_cell hA2.ct 0
        have f11 := blk_frozen hA2.ct 0
        simp at c90 c91 c92 c8 c11
        have hmem : (⟨fr, at_, by_⟩ : S94) ∈ L := by
          rw [← HG.out, List.getD_eq_getElem?_getD, List.getElem?_eq_getElem hi, Option.getD_some]
          exact List.getElem_mem hi
        have hA3 := hA2.less
        have hst : backN L (back0 old) (i + 1) = stepB i ⟨fr, at_, by_⟩ (backN L (back0 old) i) := by rw [backN, HG.out]
        have hbl : (backN L (back0 old) i).length = old.length := by rw [backN_len]; simp [back0]
        have hi24 : i < 16777216 := by omega
        cases fr with
        | false =>
          have c90' : W2.cell? ⟨W.heap.size, 0, none⟩ = some (.bool true) := c90
          have hA' := hA3.count hb11w h8n hgn (by rw [hst]; unfold stepB; rw [if_neg (by simp)])
          have HA' := Hd.mk hA'
          clear c90 hA2 h9 hmem hA3 hst hbl hA' hb2
          gi_wp2
          exact ⟨KeepsOthers.setCell _ _ _, HA'.out⟩
        | true =>
          have c90' : W2.cell? ⟨W.heap.size, 0, none⟩ = some (.bool false) := c90
          obtain ⟨ha0, ha1⟩ := HIN.out _ hmem rfl
          simp only at ha0 ha1
          obtain ⟨k, rfl⟩ := Int.eq_ofNat_of_zero_le ha0
          have hkl : k < old.length := by omega
          obtain ⟨d0, d1, d2⟩ := cells_g hA3.row hbl hkl
          obtain ⟨⟨q0, q1, q2⟩, hq⟩ : ∃ z, (backN L (back0 old) i).getD k z94 = z := ⟨_, rfl⟩
          rw [hq] at d0 d1 d2
          simp only at d0 d1 d2
          have hd0 : decide ((0 : Int) ≤ (k : Int)) = true := decide_eq_true (by omega)
          have hd1 : decide ((k : Int) < (old.length : Int)) = true := decide_eq_true ha1
          unfold stepB at hst
          simp only [Int.toNat_natCast] at hst
          rw [hq] at hst
          cases q0 with
          | true =>
            rw [if_neg (by simp)] at hst
            have d0' : W2.cell? ⟨g, k * 3, none⟩ = some (.bool false) := d0
            have hA' := hA3.count hb11w h8n hgn hst
            have HA' := Hd.mk hA'
            clear c90 d0 hA2 h9 hmem hA3 hst hbl hA' hb2 hq
            gi_wp2
            exact ⟨KeepsOthers.setCell _ _ _, HA'.out⟩
          | false =>
            rw [if_pos (by simp)] at hst
            have d0' : W2.cell? ⟨g, k * 3, none⟩ = some (.bool true) := d0
            have fz0 := World.ownsRow.frozenAt hA3.row (k * 3)
            have fz1 := World.ownsRow.frozenAt hA3.row (k * 3 + 1)
            have fz2 := World.ownsRow.frozenAt hA3.row (k * 3 + 2)
            have hA' := hA3.put hb11w h8n hgn (fun e => hg8 e.symm) hwg (by omega) hst
            have HA' := Hd.mk hA'
            clear c90 d0 hA2 h9 hmem hA3 hst hbl hA' hb2 hq
            gi_wp2
            exact ⟨((KeepsOthers.setCell _ _ _).trans (KeepsOthers.setCell _ _ _)).trans ((KeepsOthers.setCell _ _ _).trans (KeepsOthers.setCell _ _ _)), HA'.out⟩
      case done =>
        rintro X D W hD hA hd
        have HA := Hd.mk hA
        have HD := Hd.mk hd
        have c8 := blk_cell hA.bx 0
        simp at c8
        clear hA hd
        obtain ⟨M, hM⟩ : ∃ M, backN L (back0 old) L.length = M := ⟨_, rfl⟩
        have hml : M.length = old.length := by rw [← hM, backN_len]; simp [back0]
        have hva := calls_of_in (values_call (A := some ⟨g, 0, none⟩) (c := old.length) (L := M) (w := W))
        rw [hml] at hva
        have HVA := Hd.mk hva
        clear hva
        go_wp2_with fail
        refine HVA.out.mono ?_
        rintro e w5 ⟨rfl, rfl⟩
        clear HVA c8
        have hb5 : Below W.heap.size W (W.alloc (.cells #[.slice (some ⟨g, 0, none⟩) old.length old.length] 100)) := (Below.refl _ _).alloc (Nat.le_refl _) _
        have hrw := pw_own_below HA.out.row hb5
        rw [hM] at hrw
        have hvb : ValB W.heap.size (some ⟨g, 0, none⟩) old.length M (W.alloc (.cells #[.slice (some ⟨g, 0, none⟩) old.length old.length] 100)) := by
          unfold ValB
          rw [hml]
          exact ⟨blk_new W _, _, hrw⟩
        have hm24 : M.length ≤ 16777216 := by omega
        have hno := calls_of_in (normal_in 71 #[.pointer (some ⟨W.heap.size, 0, none⟩)] M (W.alloc (.cells #[.slice (some ⟨g, 0, none⟩) old.length old.length] 100)) hm24 ⟨_, Try.func71⟩ (enters_of Try.func71 (by kernel_rfl) rfl) (IterK.of ((values_iter (by omega)).mono (fun W' hb => hvb.below hb))))
        have hnn := HNN.out
        rw [hM] at hnn
        rw [hnn] at hno
        have HNO := Hd.mk hno
        clear hno hnn hvb hrw
        go_wp2_with fail
        refine HNO.out.mono ?_
        obtain ⟨n0, n1, n2, n3⟩ := q
        rintro e w6 ⟨v0, v1, v2, rfl, r0, r1, r2, hb6⟩
        simp only at r0 r1 r2 ⊢
        obtain ⟨B0, e0, rfl⟩ := Kd.R_slice r0
        obtain ⟨B1, e1, rfl⟩ := Kd.R_slice r1
        obtain ⟨B2, e2, rfl⟩ := Kd.R_slice r2
        have hT6 := blk_below (blk_alloc (HA.out.fx _ (List.mem_append_right _ (List.mem_cons_of_mem _ List.mem_cons_self))).1 (.cells #[.slice (some ⟨g, 0, none⟩) old.length old.length] 100)) hb6
        simp only at hT6
        have hDl : D < W.heap.size := (Array.getElem?_eq_some_iff.1 HD.out).1
        have hD6 := ((hb6.block D (by rw [World.size_alloc]; omega)).trans (hb5.block D hDl)).trans HD.out
        have hbe6 := below_step (below_step HA.out.be hb5) hb6
        have HT6 := Hd.mk hT6
        have HD6 := Hd.mk hD6
        have HBE := Hd.mk hbe6
        have R0 := Hd.mk r0
        have R1 := Hd.mk r1
        have R2 := Hd.mk r2
        have f0 := blk_frozen hT6 0
        have f1 := blk_frozen hT6 1
        have f2 := blk_frozen hT6 2
        have cT0 := blk_cell hT6 0
        have cT1 := blk_cell hT6 1
        have cT2 := blk_cell hT6 2
        simp at cT0 cT1 cT2
        have hws := HA.out.be.size
        clear r0 r1 r2 hT6 hD6 hbe6 HNO hb5 HA HD
        go_wp2
        have hne : D ≠ w.heap.size + 1 := by omega
        have hDs := (Below.heap_setCell _ ⟨w.heap.size + 1, 2, none⟩ (.slice B2 n2.length e2) D hne).trans ((Below.heap_setCell _ ⟨w.heap.size + 1, 1, none⟩ (.slice B1 n1.length e1) D hne).trans ((Below.heap_setCell w6 ⟨w.heap.size + 1, 0, none⟩ (.slice B0 n0.length e0) D hne).trans HD6.out))
        have hTs := blk3 HT6.out (.slice B0 n0.length e0) (.slice B1 n1.length e1) (.slice B2 n2.length e2)
        have hbs : Below w.heap.size w (((w6.setCell ⟨w.heap.size + 1, 0, none⟩ (.slice B0 n0.length e0)).setCell ⟨w.heap.size + 1, 1, none⟩ (.slice B1 n1.length e1)).setCell ⟨w.heap.size + 1, 2, none⟩ (.slice B2 n2.length e2)) :=
          ((HBE.out.setCell (Nat.le_succ _) _).setCell (Nat.le_succ _) _).setCell (Nat.le_succ _) _
        have hpk := Bk.putObj (n := w.heap.size) (o' := .deferred none) (by omega) hDs rfl
        refine ⟨by simp, .inl ⟨_, _, rfl, run_takeDeferred hDs, leaveRv (b := w.heap.size + 1) (v0 := .slice B0 n0.length e0) (v1 := .slice B1 n1.length e1) (v2 := .slice B2 n2.length e2) rfl rfl (hpk.block _ _ hTs (.inl rfl)) ?_⟩⟩
        refine normR_gen (w2 := W.alloc (.cells #[.slice (some ⟨g, 0, none⟩) old.length old.length] 100)) (by simp; omega) (Bk.below hbs hbs.size hpk) R0.out R1.out R2.out (fun k hk1 _ => ?_)
        rw [World.size_alloc] at hk1
        have hk2 : k ≠ w.heap.size + 1 := by omega
        exact (World.putObj_heap_other (by omega)).trans ((Below.heap_setCell _ ⟨w.heap.size + 1, 2, none⟩ (.slice B2 n2.length e2) k hk2).trans ((Below.heap_setCell _ ⟨w.heap.size + 1, 1, none⟩ (.slice B1 n1.length e1) k hk2).trans (Below.heap_setCell w6 ⟨w.heap.size + 1, 0, none⟩ (.slice B0 n0.length e0) k hk2)))
    · have hlt : decide ((i : Int) < (old.length : Int)) = true := decide_eq_true (by omega)
      have hil : i < old.length := by omega
      obtain ⟨ad, e, hca⟩ := Kd.at_int (Kd.C_below HO.out HBM.out) (i : Int) (by omega) (by omega)
      subst e
      simp only [Int.toNat_natCast] at hca
      have fz0 := World.ownsRow.frozenAt HR.out (i * 3)
      have fz1 := World.ownsRow.frozenAt HR.out (i * 3 + 1)
      have fz2 := World.ownsRow.frozenAt HR.out (i * 3 + 2)
      obtain ⟨k0, k1, k2⟩ := cells_g HR.out (fillN_len old (by omega)) hil
      have hs := own_set94 HR.out i (by rw [fillN_len old (by omega)]; exact hil) ⟨false, 0, rd old i⟩
      rw [fillN_set old hil] at hs
      have HS := Hd.mk hs
      clear hs
      go_wp2
      go_roundg gk
      case measure => omega
      case rel =>
        have hgg := HG1.out
        exact ⟨i + 1, rfl, by omega, HS, ⟨blk_far (blk_far (blk_far H8.out HG8.out _) HG8.out _) HG8.out _⟩, ⟨((HBM.out.setCell (by simp only; omega) _).setCell (by simp only; omega) _).setCell (by simp only; omega) _⟩⟩
end Go.Proofs.Ytemlbjpefomboaa
