/- edit: slices.AppendSeq and Collect over an iterator of origins. -/
import Derived.Test.YtemlbjpefomboaaIk
namespace Go.Proofs.Ytemlbjpefomboaa
open Go.RowKit Go.Shelf Go.Proofs.YtemlbjpefomboaaW.PrintWords Go.Proofs.YtemlbjpefomboaaW.PrintLast Go.Proofs.YtemlbjpefomboaaW.PrintMore Go.Proofs.Ytemlbjpefomboaa.Pr
set_option linter.unusedVariables false
set_option linter.unusedSimpArgs false
structure AO (w0 : World) (b8 : Nat) (L0 L : List S94) (X : List (Nat × Obj)) (i : Nat) (W : World) (v : Value) : Prop where
  bx : W.heap[b8]? = some (.cells #[v] 100 (0, 0))
  row : W.ownsRow w0.heap.size 89 3 v (L0.length + i) (cells94 (L0 ++ L.take i))
  fx : FX X W b8 v
  be : Below w0.heap.size w0 W
theorem AO.bk {w0 : World} {b8 : Nat} {L0 L : List S94} {X : List (Nat × Obj)} {i n : Nat} {W W' : World} {v : Value} (h : AO w0 b8 L0 L X i W v) (hn : w0.heap.size ≤ n) (k : Bk n W W') : AO w0 b8 L0 L X i W' v :=
  ⟨k.block _ _ h.bx (.inl rfl), own_bk h.row k, h.fx.bk k, Bk.below h.be h.be.size (k.more hn)⟩
theorem AO.grow {w0 : World} {b8 : Nat} {L0 L : List S94} {X : List (Nat × Obj)} {i : Nat} {W : World} {v : Value} (h : AO w0 b8 L0 L X i W v) (o : Obj) (ho : o.isCells = true) : AO w0 b8 L0 L ((W.heap.size, o) :: X) i (W.alloc o) v :=
  ⟨blk_alloc h.bx o, pw_own_below h.row ((Below.refl _ _).alloc (Nat.le_refl _) _), h.fx.grow o ho (blk_lt h.bx) (fun k hk => own_lt h.row k hk), h.be.alloc h.be.size _⟩
theorem AO.less {w0 : World} {b8 : Nat} {L0 L : List S94} {q : Nat × Obj} {X : List (Nat × Obj)} {i : Nat} {W : World} {v : Value} (h : AO w0 b8 L0 L (q :: X) i W v) : AO w0 b8 L0 L X i W v :=
  ⟨h.bx, h.row, ⟨fun p hp => h.fx.at_ p (List.mem_cons_of_mem _ hp)⟩, h.be⟩
theorem AO.push {w0 : World} {b8 : Nat} {L0 L : List S94} {X : List (Nat × Obj)} {i : Nat} {W : World} {v : Value} (h : AO w0 b8 L0 L X i W v) (hi : i < L.length) (o : S94) (hval : L.getD i z94 = o) (hl : L0.length + L.length ≤ 33554432) (hb8 : w0.heap.size ≤ b8) :
    ∃ v' w', (Builtin.append_ #[100, 100] 100 #[v, .slice (some ⟨W.heap.size, 0, none⟩) 1 1]).run Try.prog (W.alloc (.cells #[.bool (!o.f0), .int .i64 o.f1, .int .u8 o.f2] 89)) = .ok v' w' ∧
      w'.heap[b8]? = some (.cells #[v] 100 (0, 0)) ∧ KeepsOthers W (w'.setCell ⟨b8, 0, none⟩ v') ∧ AO w0 b8 L0 L X (i + 1) (w'.setCell ⟨b8, 0, none⟩ v') v' := by
  obtain ⟨O, hO⟩ : ∃ O, (Obj.cells #[.bool (!o.f0), .int .i64 o.f1, .int .u8 o.f2] 89) = O := ⟨_, rfl⟩
  have hba : Below W.heap.size W (W.alloc O) := (Below.refl _ _).alloc (Nat.le_refl _) _
  have hrow := pw_own_below h.row hba
  have hsrc : Src (W.alloc O) (some ⟨W.heap.size, 0, none⟩) 1 3 (cell94 o) := by
    refine ⟨rfl, fun j u hj => ?_, by simp [cell94, Value.oneCell']⟩
    have hj3 : j < 3 := by
      rcases Nat.lt_or_ge j 3 with h3 | h3
      · exact h3
      · rw [List.getElem?_eq_none (by simpa [cell94] using h3)] at hj; cases hj
    have hbn : (W.alloc O).heap[W.heap.size]? = some (.cells #[.bool (!o.f0), .int .i64 o.f1, .int .u8 o.f2] 89) := by rw [hO]; exact blk_new W O
    refine ⟨_, rfl, ?_⟩
    match j, hj3, hj with
    | 0, _, hj => rw [add_plain, blk_cell hbn, ← hj]; rfl
    | 1, _, hj => rw [add_plain, blk_cell hbn, ← hj]; rfl
    | 2, _, hj => rw [add_plain, blk_cell hbn, ← hj]; rfl
  rw [hO]
  obtain ⟨v', w', hrun, ho, hg, hp, _⟩ := run_app (P := Try.prog) (W.alloc O) w0.heap.size 100 100 89 (.agg #[.bool false, .int .i64 0, .int .u8 0]) 3 24 eltO v _ _ hrow (some ⟨W.heap.size, 0, none⟩) 1 1 (cell94 o) hsrc (by omega) (Nat.le_trans h.be.size hba.size)
  have hbxa := blk_alloc h.bx O
  have hne := own_ne hrow hbxa (by decide)
  have hbx' := blk_grown hbxa hg hne
  have hlt8 := blk_lt h.bx
  have hb' : Below w0.heap.size w0 w' := (h.be.alloc h.be.size _).grown hg (Nat.le_trans h.be.size hba.size) (own_base hrow)
  have hne' : some b8 ≠ v'.ownBlock := by
    rcases hp.block with e | e
    · rw [e]; exact hne
    · rw [e]; intro e2; cases e2; simp at hlt8; omega
  have ht : L.take (i + 1) = L.take i ++ [o] := by
    rw [List.take_succ_eq_append_getElem hi, ← hval, List.getD_eq_getElem?_getD, List.getElem?_eq_getElem hi, Option.getD_some]
  refine ⟨v', w', hrun, hbx', ?_, ?_, ?_, ?_, ?_⟩
  · refine ((KeepsOthers.alloc W _).trans (KeepsOthers.of_grownBy hg (fun j o hj ho => ?_))).trans (KeepsOthers.setCell _ _ _)
    obtain ⟨cells, hc⟩ := own_typed hrow j hj.symm.symm
    rw [hc] at ho
    cases ho
    rfl
  · have := blk_set hbx' 0 v'
    simpa using this
  · rw [ht, ← List.append_assoc, cells94_snoc]
    exact own_setCell ho hne' _
  · refine ⟨fun q hq => ?_⟩
    obtain ⟨h1, h2, h3, h4⟩ := h.fx.at_ q hq
    refine ⟨?_, h2, h3, ?_⟩
    · have e1 := blk_grown (blk_alloc h1 O) hg (fun e => h4 e.symm)
      exact (Below.heap_setCell w' ⟨b8, 0, none⟩ v' q.1 h3).trans e1
    · rcases hp.block with e | e
      · rw [e]; exact h4
      · rw [e]; intro e2; have := blk_lt h1; simp at e2; omega
  · exact hb'.setCell hb8 _
theorem leaveAS {tmps : Array Value} {W : World} {R : Ending → World → Prop} {v : Value} (h4 : tmps.getD 4 undef = v) (h : R (.returned v) W) :
    LeavesInM (FN EX) 0 Try.prog Try.f67 tmps R [] .returning W := by
  refine ⟨v, ?_, h⟩
  have h4' : tmps[4]?.getD undef = v := by simpa using h4
  simp [results, Try.results67, go_sem, h4']
attribute [local go_sem] Oper.semAt_some
attribute [-go_sem] Builtin.append_
set_option maxRecDepth 100000 in
set_option maxHeartbeats 8000000 in
theorem appseq_in {Kw : World → Prop} {gf : Nat} {lb : Array Value} {L L0 : List S94} {w0 w : World} {Z : List (Nat × Obj)} {v0 : Value} (hseq : IterK Kw gf lb L) (hgf : EX gf) (eg : ∀ args w, (callFunc gf args).run Try.prog w = .ok (.enter gf args) w)
    (hl : L0.length + L.length ≤ 33554432) (hrow : w.ownsRow w0.heap.size 89 3 v0 L0.length (cells94 L0)) (hbe : Below w0.heap.size w0 w) (hZ : ∀ q ∈ Z, w.heap[q.1]? = some q.2 ∧ q.2.isCells = true ∧ v0.ownBlock ≠ some q.1)
    (hkw : ∀ W, Below w0.heap.size w0 W → (∀ q ∈ Z, W.heap[q.1]? = some q.2) → Kw W) :
    CallsIn (FN EX) 0 Try.prog 67 #[v0, .func (.func gf) #[] lb] w fun e w' => ∃ v, e = .returned v ∧ w'.ownsRow w0.heap.size 89 3 v (L0.length + L.length) (cells94 (L0 ++ L)) ∧
      Below w0.heap.size w0 w' ∧ ∀ q ∈ Z, w'.heap[q.1]? = some q.2 ∧ v.ownBlock ≠ some q.1 := by
  obtain ⟨Av0, cv0, rfl⟩ := own_slice hrow
  have HSEQ := Hd.mk hseq
  have HGF := Hd.mk hgf
  have HEG := Hd.mk eg
  have HKW := Hd.mk hkw
  have HA0 : Hd (AO w0 w.heap.size L0 L Z 0 (w.alloc (.cells #[.slice Av0 L0.length cv0] 100)) (.slice Av0 L0.length cv0)) := ⟨blk_new w _, by
    have := pw_own_below hrow ((Below.refl w.heap.size w).alloc (Nat.le_refl _) (.cells #[.slice Av0 L0.length cv0] 100))
    simpa using this, ⟨fun q hq => by
    obtain ⟨h1, h2, h3⟩ := hZ q hq
    exact ⟨blk_alloc h1 _, h2, by have := blk_lt h1; omega, h3⟩⟩, hbe.alloc hbe.size _⟩
  have hb0 := hbe.size
  have HL := Hd.mk hl
  clear hseq hgf eg hkw hrow hbe hZ hl
  refine callsIn_of_wp_marks (n := 0) Try.func67 rfl ⟨_, Try.func67⟩ ?_ rfl
  simp only [Try.ntmps67, List.size_toArray, List.length_cons, List.length_nil, Nat.reduceAdd, Nat.reduceSub, Array.replicate_succ, Array.replicate_zero, List.push_toArray, List.append_toArray, List.nil_append, List.cons_append]
  gi_wp2
  obtain ⟨W1, hW1⟩ : ∃ w_, w.alloc (.cells #[.slice Av0 L0.length cv0] 100) = w_ := ⟨_, rfl⟩
  have hs1 : W1.heap.size = w.heap.size + 1 := by rw [← hW1]; simp
  rw [hW1] at HA0 ⊢
  clear hW1
  obtain ⟨b8, hb8⟩ : ∃ b, w.heap.size = b := ⟨_, rfl⟩
  rw [hb8] at HA0 hb0 ⊢
  have HW1 := Hd.mk (show w0.heap.size ≤ W1.heap.size by omega)
  clear hs1 hb8
  refine wp_rangeX (F := FN EX) rfl rfl (gf := gf) (lb := lb) rfl HGF.out HEG.out (fun i => #[enc89 (L.getD i z94)]) (fun _ => rfl) L.length (fun X i W => ∃ v, AO w0 b8 L0 L (X ++ Z) i W v) (fun _ _ => False) (fun _ _ => False) (.inl fun _ _ h => h)
    ⟨_, HA0.out⟩ (fun X i W W' h k => by obtain ⟨v, h⟩ := h; exact ⟨v, h.bk HW1.out k⟩) (fun X i W o ho h => by obtain ⟨v, h⟩ := h; exact ⟨v, h.grow o ho⟩) (fun _ _ _ h _ => h) (fun _ _ _ h _ => h) ?seq ?round ?done (fun _ _ _ _ h _ => h.elim) (fun _ _ _ _ h _ => h.elim)
  case seq =>
    intro l W2 J Jx Jp hb2 hl hl2 hJI hGr hst hx hp hY h0
    exact HSEQ.out l W2.heap.size J Jx Jp (fun X i W hJ => by
      obtain ⟨v, h⟩ := hJI X i W hJ
      exact ⟨HKW.out W h.be (fun q hq => (h.fx.at_ q (List.mem_append_right _ hq)).1), fun q hq => (h.fx.at_ q (List.mem_append_left _ hq)).1⟩) hGr hst hx hp hY W2 rfl h0
  case round =>
    rintro X l o i W hi ⟨v, hA⟩ hl ho hc
    obtain ⟨Av, cv, rfl⟩ := own_slice hA.row
    obtain ⟨⟨fr, at_, by_⟩, hg⟩ : ∃ r, L.getD i z94 = r := ⟨_, rfl⟩
    simp only [hg]
    dsimp only [enc89]
    have HG := Hd.mk hg
    have HA := Hd.mk hA
    clear hg hA ho hl hc
    gi_wp2
    refine ⟨KeepsOthers.alloc _ _, fun W2 hb2 => ?_⟩
    have hA2 := (HA.out.grow (.cells #[.bool (!fr), .int .i64 at_, .int .u8 by_] 89) rfl).bk HW1.out hb2
    have h9 := (hA2.fx.at_ _ (List.mem_cons_self)).1
    have c90 := blk_cell h9 0
    have c91 := blk_cell h9 1
    have c92 := blk_cell h9 2
    have c8 := blk_cell hA2.bx 0
    have f8 := blk_frozen hA2.bx 0
    simp at c90 c91 c92 c8
    obtain ⟨v', w', hrun, hbx', hko, hA'⟩ := hA2.less.push hi _ HG.out HL.out hb0
    obtain ⟨Av', cv', rfl⟩ := own_slice hA'.row
    have c8' := blk_cell hbx' 0
    have f8' := blk_frozen hbx' 0
    simp at c8'
    have HKO := Hd.mk hko
    have HA' := Hd.mk hA'
    clear hA2 h9 hko hA' hb2 HA HG
    gi_wp2
    exact ⟨HKO.out, _, HA'.out⟩
  case done =>
    rintro X D W hD ⟨v, hA⟩ hd
    have c8 := blk_cell hA.bx 0
    simp at c8
    have HA := Hd.mk hA
    have HD := Hd.mk hd
    clear hA hd
    gi_wp2
    refine ⟨by simp, .inl ⟨_, _, rfl, run_takeDeferred HD.out, leaveAS (v := v) rfl ⟨v, rfl, ?_, ?_, ?_⟩⟩⟩
    · have h := own_bk HA.out.row (Bk.putObj (n := W1.heap.size) (o' := .deferred none) hD HD.out rfl)
      rwa [List.take_of_length_le (Nat.le_refl _)] at h
    · exact Bk.below HA.out.be HA.out.be.size (Bk.putObj (n := w0.heap.size) (o' := .deferred none) (by have := HW1.out; omega) HD.out rfl)
    · intro q hq
      obtain ⟨h1, h2, h3, h4⟩ := HA.out.fx.at_ q (List.mem_append_right _ hq)
      exact ⟨(Bk.putObj (n := W1.heap.size) (o' := .deferred none) hD HD.out rfl).block _ _ h1 (.inl h2), h4⟩
end Go.Proofs.Ytemlbjpefomboaa
