/- cutter: plain, by contract; rows of the document's steps. -/
import Derived.Test.YtinlfoblpgpikaaCo
import Derived.Test.YtinlfoblpgpikaaZ2
namespace Go.Proofs.Ytinlfoblpgpikaa
open Go.RowKit Go.Shelf Go.Proofs.YtinlfoblpgpikaaW.PrintWords Go.Proofs.YtinlfoblpgpikaaW.PrintLast Go.Proofs.YtinlfoblpgpikaaW.PrintMore Go.Proofs.Ytinlfoblpgpikaa.Pr
set_option linter.unusedVariables false
set_option linter.unusedSimpArgs false
theorem elt81 : Elt Try.prog 23 81 (.agg #[.int .i64 0, .int .i64 0, .int .i64 0]) 3 24 := ⟨Try.underlying23, by kernel_rfl, rfl, by decide, by decide⟩
/-- An own row of steps, whatever their type is called. -/
def OS (e : TypeId) (w : World) (base : Nat) (v : Value) (l : List S82) : Prop := w.ownsRow base e 3 v l.length (cells82 l)
theorem pushS {W : World} {base : Nat} {v : Value} {l : List S82} {t e : TypeId} (E : Elt Try.prog t e (.agg #[.int .i64 0, .int .i64 0, .int .i64 0]) 3 24) (h : OS e W base v l) (hb : base ≤ W.heap.size) {g : Nat} {ty : TypeId} {s : S82} (hg : W.heap[g]? = some (.cells #[.int .i64 s.f0, .int .i64 s.f1, .int .i64 s.f2] ty)) (hl : l.length ≤ 5864062014805) :
    ∃ v' w', (Builtin.append_ #[t, t] t #[v, .slice (some ⟨g, 0, none⟩) 1 1]).run Try.prog W = .ok v' w' ∧ OS e w' base v' (l ++ [s]) ∧ W.grownBy w' v.ownBlock := by
  obtain ⟨v', w', h1, h2, h3, _, _⟩ := run_app (P := Try.prog) W base t t e _ 3 24 E v _ _ h (some ⟨g, 0, none⟩) 1 1 (cells82 [s]) (src82 (C82_lit (l := [s]) hg (by simp))) (by omega) hb
  exact ⟨v', w', h1, by rw [OS, List.length_append, cells82_snoc]; exact h2, h3⟩
theorem OS.form {e : TypeId} {w : World} {base : Nat} {v : Value} {l : List S82} (h : OS e w base v l) {n : Nat} (hn : l.length = n) : ∃ A c, v = .slice A n c := hn ▸ own_slice h
theorem take82 (l : List S82) (i : Nat) (h : i < l.length) : l.take (i + 1) = l.take i ++ [rd_T82 l i] := by
  rw [List.take_succ_eq_append_getElem h]
  simp [rd_T82, List.getD_eq_getElem?_getD, List.getElem?_eq_getElem h]
attribute [-go_sem] Builtin.append_
set_option maxRecDepth 100000 in
set_option maxHeartbeats 4000000 in
theorem plain_c {A0 : Option Addr} {c0 : Nat} {st : List S82} {A1 : Option Addr} {n1 c1 : Nat} {A2 : Option Addr} {n2 c2 : Nat} {w : World} (hS : Kd.C k82 w A0 st.length st) (hl : st.length ≤ 5864062014805) :
    Calls Try.prog 17 #[.agg #[.slice A0 st.length c0, .slice A1 n1 c1, .slice A2 n2 c2]] w fun e w' => ∃ v, e = .returned (.agg #[v, .slice A1 n1 c1, .slice A2 n2 c2]) ∧ OS 81 w' w.heap.size v st ∧ Below w.heap.size w w' := by
  have HS := Hd.mk hS
  clear hS
  go_enter Try.func17, Try.ntmps17
  go_wp2
  go_loopg [14] st.length (fun k v14 W => ∃ (i : Nat) (v : Value), v14 = .int .i64 i ∧ i + k = st.length ∧ Hd (OS 81 W w.heap.size v (st.take i)) ∧ Hd (W.heap[w.heap.size + 1 + 1]? = some (.cells #[v, .slice A1 n1 c1, .slice A2 n2 c2] 26)) ∧ Hd (W.heap[w.heap.size + 1]? = some (.cells #[.slice none 0 0, .slice none 0 0, .slice none 0 0] 26)) ∧ Hd (Below w.heap.size w W))
  case atStart =>
    refine ⟨0, .slice none 0 0, rfl, by omega, ⟨own_nil _ _ _ _⟩, ⟨?_⟩, ⟨?_⟩, ⟨?_⟩⟩
    · have := blk_new ((w.alloc (Obj.cells #[Value.slice A0 st.length c0, Value.slice A1 n1 c1, Value.slice A2 n2 c2] 29)).alloc (Obj.cells #[Value.slice none 0 0, Value.slice none 0 0, Value.slice none 0 0] 26)) (.cells #[Value.slice none 0 0, Value.slice A1 n1 c1, Value.slice A2 n2 c2] 26)
      simpa using this
    · have := blk_new (w.alloc (Obj.cells #[Value.slice A0 st.length c0, Value.slice A1 n1 c1, Value.slice A2 n2 c2] 29)) (Obj.cells #[Value.slice none 0 0, Value.slice none 0 0, Value.slice none 0 0] 26)
      exact blk_alloc (show _ from by simpa using this) _
    · exact (((Below.refl _ _).alloc (Nat.le_refl _) _).alloc (by simp) _).alloc (by simp; omega) _
  case round =>
    obtain ⟨i, v, rfl, hk, HO, HY, HZ, HB⟩ := hrel
    have hy0 := blk_cell HY.out 0
    have hy1 := blk_cell HY.out 1
    have hy2 := blk_cell HY.out 2
    have hz0 := blk_cell HZ.out 0
    have hz1 := blk_cell HZ.out 1
    have hz2 := blk_cell HZ.out 2
    simp at hy0 hy1 hy2 hz0 hz1 hz2
    have hf0 := blk_frozen HZ.out 0
    have hf1 := blk_frozen HZ.out 1
    have hf2 := blk_frozen HZ.out 2
    have hlY := blk_lt HY.out
    obtain ⟨Av, cv, rfl⟩ := HO.out.form (n := i) (by rw [List.length_take]; omega)
    have hfy := blk_frozen HY.out 0
    rcases gk with _ | gk
    · have hlt : decide ((i : Int) < (st.length : Int)) = false := decide_eq_false (by omega)
      obtain rfl : i = st.length := by omega
      have ho := HO.out
      rw [List.take_length] at ho
      have HO2 := Hd.mk ho
      clear ho
      have hb3 := blk_set (blk_set (blk_set HZ.out 0 (.slice Av st.length cv)) 1 (.slice A1 n1 c1)) 2 (.slice A2 n2 c2)
      simp at hb3
      have hO3 : OS 81 (((wr.setCell ⟨w.heap.size + 1, 0, none⟩ (.slice Av st.length cv)).setCell ⟨w.heap.size + 1, 1, none⟩ (.slice A1 n1 c1)).setCell ⟨w.heap.size + 1, 2, none⟩ (.slice A2 n2 c2)) w.heap.size (.slice Av st.length cv) st :=
        have key : ∀ (W : World) (p : Addr) (u : Value), p.block = w.heap.size + 1 → (some p.block ≠ (Value.slice Av st.length cv).ownBlock) → OS 81 W w.heap.size (.slice Av st.length cv) st → OS 81 (W.setCell p u) w.heap.size (.slice Av st.length cv) st := fun W p u _ hne h => own_setCell h (fun e => hne e) _
        have hne := own_ne HO2.out HZ.out (by decide)
        key _ _ _ rfl (fun e => hne e) (key _ _ _ rfl (fun e => hne e) (key _ _ _ rfl (fun e => hne e) HO2.out))
      have HO3 := Hd.mk hO3
      have HB3 : Hd (Below w.heap.size w (((wr.setCell ⟨w.heap.size + 1, 0, none⟩ (.slice Av st.length cv)).setCell ⟨w.heap.size + 1, 1, none⟩ (.slice A1 n1 c1)).setCell ⟨w.heap.size + 1, 2, none⟩ (.slice A2 n2 c2))) := ⟨((HB.out.setCell (by simp) _).setCell (by simp) _).setCell (by simp) _⟩
      have HY3 := Hd.mk hb3
      clear hb3 hO3
      go_wp2
      obtain ⟨W3, hW3⟩ : ∃ W, (((wr.setCell ⟨w.heap.size + 1, 0, none⟩ (.slice Av st.length cv)).setCell ⟨w.heap.size + 1, 1, none⟩ (.slice A1 n1 c1)).setCell ⟨w.heap.size + 1, 2, none⟩ (.slice A2 n2 c2)) = W := ⟨_, rfl⟩
      rw [hW3] at HO3 HB3 HY3 ⊢
      refine bodyPost_ret (results_cell_row rfl _ _ (w.heap.size + 1) 26 _ (0, 0) _ rfl HY3.out Try.underlying26 rfl (by kernel_rfl)) rfl ?_
      exact ⟨.slice Av st.length cv, rfl, HO3.out, HB3.out⟩
    · have hlt : decide ((i : Int) < (st.length : Int)) = true := decide_eq_true (by omega)
      have hng : decide ((0 : Int) ≤ (i : Int)) = true := decide_eq_true (by omega)
      have hil : i < st.length := by omega
      obtain ⟨ad, e, x0, x1, x2⟩ := at_T82 (Kd.C_below HS.out HB.out) (i : Int) (by omega) (by omega)
      subst e
      rw [Int.toNat_natCast] at x0 x1 x2
      have HT : Hd (st.take (i + 1) = st.take i ++ [rd_T82 st i]) := ⟨take82 st i hil⟩
      obtain ⟨s, hs⟩ : ∃ s, rd_T82 st i = s := ⟨_, rfl⟩
      rw [hs] at x0 x1 x2 HT
      clear hs
      obtain ⟨f0, f1, f2⟩ := s
      simp only at x0 x1 x2
      have hba := ((Below.refl wr.heap.size wr).alloc (Nat.le_refl _) (.cells #[.int .i64 f0, .int .i64 f1, .int .i64 f2] 82)).alloc (by simp) (.cells #[.int .i64 f0, .int .i64 f1, .int .i64 f2] 81)
      have hbn : ((wr.alloc (.cells #[.int .i64 f0, .int .i64 f1, .int .i64 f2] 82)).alloc (.cells #[.int .i64 f0, .int .i64 f1, .int .i64 f2] 81)).heap[wr.heap.size + 1]? = some (.cells #[.int .i64 f0, .int .i64 f1, .int .i64 f2] 81) := by
        have := blk_new (wr.alloc (.cells #[.int .i64 f0, .int .i64 f1, .int .i64 f2] 82)) (.cells #[.int .i64 f0, .int .i64 f1, .int .i64 f2] 81)
        simpa using this
      obtain ⟨v', w', hrun, ho, hg⟩ := pushS (s := ⟨f0, f1, f2⟩) elt81 (pw_own_below HO.out hba) (by have := HB.out.size; have := hba.size; omega) hbn (by rw [List.length_take]; omega)
      have HY2 := Hd.mk (blk_grown (blk_below HY.out hba) hg (own_ne (pw_own_below HO.out hba) (blk_below HY.out hba) (by decide)))
      have HZ2 := Hd.mk (blk_grown (blk_below HZ.out hba) hg (own_ne (pw_own_below HO.out hba) (blk_below HZ.out hba) (by decide)))
      have HB2 := Hd.mk ((below_step HB.out hba).grown hg (below_step HB.out hba).size (own_base HO.out))
      have HO2 := Hd.mk ho
      obtain ⟨Av', cv', rfl⟩ := ho.form (n := i + 1) (by rw [List.length_append, List.length_take, Nat.min_eq_left (by omega)]; rfl)
      have hb3 : (w'.setCell ⟨w.heap.size + 1 + 1, 0, none⟩ (.slice Av' (i + 1) cv')).heap[w.heap.size + 1 + 1]? = some (.cells #[.slice Av' (i + 1) cv', .slice A1 n1 c1, .slice A2 n2 c2] 26) := by
        have := blk_set HY2.out 0 (.slice Av' (i + 1) cv')
        simpa using this
      have HY3 := Hd.mk hb3
      have HZ3 : Hd ((w'.setCell ⟨w.heap.size + 1 + 1, 0, none⟩ (.slice Av' (i + 1) cv')).heap[w.heap.size + 1]? = some (.cells #[.slice none 0 0, .slice none 0 0, .slice none 0 0] 26)) := ⟨(Below.heap_setCell w' ⟨w.heap.size + 1 + 1, 0, none⟩ _ _ (by simp)).trans HZ2.out⟩
      have HO3 : Hd (OS 81 (w'.setCell ⟨w.heap.size + 1 + 1, 0, none⟩ (.slice Av' (i + 1) cv')) w.heap.size (.slice Av' (i + 1) cv') (st.take (i + 1))) := ⟨by
        rw [HT.out]
        exact own_setCell HO2.out (p := ⟨w.heap.size + 1 + 1, 0, none⟩) (fun e => own_ne HO2.out HY2.out (by decide) e) _⟩
      have HB3 : Hd (Below w.heap.size w (w'.setCell ⟨w.heap.size + 1 + 1, 0, none⟩ (.slice Av' (i + 1) cv'))) := ⟨HB2.out.setCell (by simp; omega) _⟩
      have hz3 := blk_cell HY2.out 0
      simp at hz3
      have hf3 := blk_frozen HY2.out 0
      clear hb3
      clear ho hg hba hbn
      go_wp2
      go_roundg gk
      case measure => omega
      case rel => exact ⟨i + 1, .slice Av' (i + 1) cv', by go_num, by omega, HO3, HY3, HZ3, HB3⟩
end Go.Proofs.Ytinlfoblpgpikaa
