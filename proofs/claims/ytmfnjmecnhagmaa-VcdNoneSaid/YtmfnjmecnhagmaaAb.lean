/- vcd: the program's edit.Apply. (Turned from edit/Ac.) -/
import Derived.Test.YtmfnjmecnhagmaaOa
import Derived.Test.YtmfnjmecnhagmaaAp
namespace Go.Proofs.Ytmfnjmecnhagmaa
open Go.RowKit Go.Shelf Go.Proofs.YtmfnjmecnhagmaaW.PrintWords Go.Proofs.YtmfnjmecnhagmaaW.PrintLast Go.Proofs.YtmfnjmecnhagmaaW.PrintMore Go.Proofs.Ytmfnjmecnhagmaa.Pr
set_option linter.unusedVariables false
set_option linter.unusedSimpArgs false
attribute [local go_sem] Oper.semAt_some
/-- The bytes that come. -/
def ob (old : List Int) (o : S94) : Int := if o.f0 = true then (rd old o.f1 + o.f2) % 256 else o.f2
theorem itself_c {A0 : Option Addr} {c0 : Nat} {st : List S100} {A1 : Option Addr} {c1 : Nat} {d : List Int} {A2 : Option Addr} {c2 : Nat} {x : List Int} {w : World} (h : EdC w A0 c0 st A1 c1 d A2 c2 x) :
    Calls Try.prog 61 #[EdV A0 st.length c0 A1 d.length c1 A2 x.length c2] w fun e w' => e = .returned (.tuple #[.int .i64 (ited st d x).1, .int .i64 (ited st d x).2]) ∧ Below w.heap.size w w' := by
  obtain ⟨k, hk⟩ := itself_f st d x h.s.2.1
  exact edit_itself.calls k A0 c0 st A1 c1 d A2 c2 x _ _ w h.s h.hs h.di h.hd h.ex h.hx hk
theorem reads_c {A0 : Option Addr} {c0 : Nat} {st : List S100} {w : World} (old : Int) (h : Kd.C k100 w A0 st.length st) (hc : st.length ≤ c0) :
    Calls Try.prog 62 #[.slice A0 st.length c0, .int .i64 old] w fun e w' => e = .returned (.bool (rds old st 0)) ∧ Below w.heap.size w w' := by
  obtain ⟨k, hk⟩ := reads_f st old h.2.1
  exact edit_reads.calls k A0 c0 st old _ w h hc hk
/-- Every origin lies within. -/
def Inn (n : Int) (L : List S94) : Prop := ∀ o ∈ L, o.f0 = true → 0 ≤ o.f1 ∧ o.f1 < n
def appliedE (old : List Int) (st : List S100) (d x : List Int) : Int :=
  if 16777216 < (old.length : Int) then 1 else if (ited st d x).2 ≠ 0 then (ited st d x).2 else if rds old.length st 0 = false then 161 else 0
def applied (old : List Int) (st : List S100) (d x : List Int) : List Int := if appliedE old st d x = 0 then (og st d x 0).map (ob old) else []
/-- A row of foreign blocks beside the one that grows. -/
structure FX (X : List (Nat × Obj)) (W : World) (b8 : Nat) (v : Value) : Prop where
  at_ : ∀ q ∈ X, W.heap[q.1]? = some q.2 ∧ q.2.isCells = true ∧ q.1 ≠ b8 ∧ v.ownBlock ≠ some q.1
theorem FX.bk {X : List (Nat × Obj)} {W W' : World} {b8 n : Nat} {v : Value} (h : FX X W b8 v) (k : Bk n W W') : FX X W' b8 v :=
  ⟨fun q hq => by obtain ⟨h1, h2, h3, h4⟩ := h.at_ q hq; exact ⟨k.block _ _ h1 (.inl h2), h2, h3, h4⟩⟩
theorem FX.grow {X : List (Nat × Obj)} {W : World} {b8 : Nat} {v : Value} (h : FX X W b8 v) (o : Obj) (ho : o.isCells = true) (hb : b8 < W.heap.size) (hv : ∀ k, v.ownBlock = some k → k < W.heap.size) : FX ((W.heap.size, o) :: X) (W.alloc o) b8 v := by
  refine ⟨fun q hq => ?_⟩
  rcases List.mem_cons.1 hq with rfl | hq
  · exact ⟨blk_new W o, ho, by simp only; omega, fun e => by have := hv _ e; omega⟩
  · obtain ⟨h1, h2, h3, h4⟩ := h.at_ q hq
    exact ⟨blk_alloc h1 o, h2, h3, h4⟩
structure AI (w0 : World) (b8 : Nat) (bs : List Int) (X : List (Nat × Obj)) (i : Nat) (W : World) (v : Value) : Prop where
  bx : W.heap[b8]? = some (.cells #[v] 34 (0, 0))
  row : W.ownsRow w0.heap.size 5 1 v i (nums .u8 (bs.take i))
  fx : FX X W b8 v
  be : Below w0.heap.size w0 W
theorem AI.bk {w0 : World} {b8 : Nat} {bs : List Int} {X : List (Nat × Obj)} {i n : Nat} {W W' : World} {v : Value} (h : AI w0 b8 bs X i W v) (hn : w0.heap.size ≤ n) (k : Bk n W W') : AI w0 b8 bs X i W' v :=
  ⟨k.block _ _ h.bx (.inl rfl), own_bk h.row k, h.fx.bk k, Bk.below h.be h.be.size (k.more hn)⟩
theorem AI.grow {w0 : World} {b8 : Nat} {bs : List Int} {X : List (Nat × Obj)} {i : Nat} {W : World} {v : Value} (h : AI w0 b8 bs X i W v) (o : Obj) (ho : o.isCells = true) : AI w0 b8 bs ((W.heap.size, o) :: X) i (W.alloc o) v :=
  ⟨blk_alloc h.bx o, pw_own_below h.row ((Below.refl _ _).alloc (Nat.le_refl _) _), h.fx.grow o ho (blk_lt h.bx) (fun k hk => own_lt h.row k hk), h.be.alloc h.be.size _⟩
theorem AI.drew {w0 : World} {b8 : Nat} {bs : List Int} {X : List (Nat × Obj)} {i : Nat} {W : World} {v : Value} (h : AI w0 b8 bs X i W v) : AI w0 b8 bs X i W.drew v :=
  h.bk (n := w0.heap.size) (Nat.le_refl _) (Bk.of_below (Below.drew' W))
theorem AI.less {w0 : World} {b8 : Nat} {bs : List Int} {q : Nat × Obj} {X : List (Nat × Obj)} {i : Nat} {W : World} {v : Value} (h : AI w0 b8 bs (q :: X) i W v) : AI w0 b8 bs X i W v :=
  ⟨h.bx, h.row, ⟨fun p hp => h.fx.at_ p (List.mem_cons_of_mem _ hp)⟩, h.be⟩
theorem AI.push {w0 : World} {b8 : Nat} {bs : List Int} {X : List (Nat × Obj)} {i : Nat} {W : World} {v : Value} (h : AI w0 b8 bs X i W v) (hi : i < bs.length) (val : Int) (hval : bs.getD i 0 = val) (hl : bs.length ≤ 16777216) (hb8 : w0.heap.size ≤ b8) :
    ∃ v' w', (Builtin.append_ #[34, 34] 34 #[v, .slice (some ⟨W.heap.size, 0, none⟩) 1 1]).run Try.prog (W.alloc (.cells #[.int .u8 val] 5)) = .ok v' w' ∧
      w'.heap[b8]? = some (.cells #[v] 34 (0, 0)) ∧ KeepsOthers W (w'.setCell ⟨b8, 0, none⟩ v') ∧ AI w0 b8 bs X (i + 1) (w'.setCell ⟨b8, 0, none⟩ v') v' := by
  have hba : Below W.heap.size W (W.alloc (.cells #[.int .u8 val] 5)) := (Below.refl _ _).alloc (Nat.le_refl _) _
  have hrow := pw_own_below h.row hba
  have hsrc : Src (W.alloc (.cells #[.int .u8 val] 5)) (some ⟨W.heap.size, 0, none⟩) 1 1 [.int .u8 val] := by
    refine ⟨rfl, fun j u hj => ?_, by simp [Value.oneCell']⟩
    cases j with
    | zero =>
      simp at hj
      subst hj
      refine ⟨_, rfl, ?_⟩
      rw [add_plain, blk_cell (blk_new W _)]
      rfl
    | succ j => simp at hj
  obtain ⟨v', w', hrun, ho, hg, hp, _⟩ := run_app (P := Try.prog) (W.alloc (.cells #[.int .u8 val] 5)) w0.heap.size 34 34 5 (.int .u8 0) 1 1 eltB v i _ hrow (some ⟨W.heap.size, 0, none⟩) 1 1 [.int .u8 val] hsrc (by omega) (Nat.le_trans h.be.size hba.size)
  have hbxa := blk_alloc h.bx (.cells #[.int .u8 val] 5)
  have hne := own_ne hrow hbxa (by decide)
  have hbx' := blk_grown hbxa hg hne
  have hlt8 := blk_lt h.bx
  have hb' : Below w0.heap.size w0 w' := (h.be.alloc h.be.size _).grown hg (Nat.le_trans h.be.size hba.size) (own_base hrow)
  have hne' : some b8 ≠ v'.ownBlock := by
    rcases hp.block with e | e
    · rw [e]; exact hne
    · rw [e]; intro e2; cases e2; simp at hlt8; omega
  have ht : bs.take (i + 1) = bs.take i ++ [val] := by
    rw [List.take_succ_eq_append_getElem hi, ← hval, List.getD_eq_getElem?_getD, List.getElem?_eq_getElem hi, Option.getD_some]
  refine ⟨v', w', hrun, hbx', ?_, ?_, ?_, ?_, ?_⟩
  · refine ((KeepsOthers.alloc W _).trans (KeepsOthers.of_grownBy hg (fun j o hj ho => ?_))).trans (KeepsOthers.setCell _ _ _)
    obtain ⟨cells, hc⟩ := own_typed hrow j hj.symm.symm
    rw [hc] at ho
    cases ho
    rfl
  · have := blk_set hbx' 0 v'
    simpa using this
  · rw [ht, nums_append]
    exact own_setCell ho hne' _
  · refine ⟨fun q hq => ?_⟩
    obtain ⟨h1, h2, h3, h4⟩ := h.fx.at_ q hq
    refine ⟨?_, h2, h3, ?_⟩
    · have e1 := blk_grown (blk_alloc h1 (.cells #[.int .u8 val] 5)) hg (fun e => h4 e.symm)
      exact (Below.heap_setCell w' ⟨b8, 0, none⟩ v' q.1 h3).trans e1
    · rcases hp.block with e | e
      · rw [e]; exact h4
      · rw [e]; intro e2; have := blk_lt h1; simp at e2; omega
  · exact hb'.setCell hb8 _
theorem leaveA {tmps : Array Value} {W : World} {R : Ending → World → Prop} {v u : Value} (h4 : tmps.getD 4 undef = v) (h5 : tmps.getD 5 undef = u) (h : R (.returned (.tuple #[v, u])) W) :
    LeavesInM Fence.wide 0 Try.prog Try.f40 tmps R [] .returning W := by
  refine ⟨.tuple #[v, u], ?_, h⟩
  have h4' : tmps[4]?.getD undef = v := by simpa using h4
  have h5' : tmps[5]?.getD undef = u := by simpa using h5
  simp [results, Try.results40, go_sem, h4', h5']
attribute [-go_sem] Builtin.append_
set_option maxRecDepth 100000 in
set_option maxHeartbeats 8000000 in
theorem apply_c (Ao : Option Addr) (co : Nat) (old : List Int) (A0 : Option Addr) (c0 : Nat) (st : List S100) (A1 : Option Addr) (c1 : Nat) (d : List Int) (A2 : Option Addr) (c2 : Nat) (x : List Int) (w : World)
    (hO : Kd.C (Kd.int .u8) w Ao old.length old) (hoc : old.length ≤ co) (hE : EdC w A0 c0 st A1 c1 d A2 c2 x) (hin : appliedE old st d x = 0 → Inn old.length (og st d x 0)) :
    Calls Try.prog 40 #[.slice Ao old.length co, EdV A0 st.length c0 A1 d.length c1 A2 x.length c2] w fun e w' => ∃ v, e = .returned (.tuple #[v, .int .i64 (appliedE old st d x)]) ∧
      w'.ownsRow w.heap.size 5 1 v (applied old st d x).length (nums .u8 (applied old st d x)) ∧ Below w.heap.size w w' := by
  have hb0 : Below w.heap.size w ((w.alloc (.cells #[.slice Ao old.length co] 34)).alloc (.cells #[.slice A0 st.length c0, .slice A1 d.length c1, .slice A2 x.length c2] 37)) := ((Below.refl _ _).alloc (Nat.le_refl _) _).alloc (by simp) _
  have HB0 := Hd.mk hb0
  have HE0 := Hd.mk (hE.below hb0)
  have HO0 := Hd.mk (Kd.C_below hO hb0)
  have HX0 : Hd (((w.alloc (.cells #[.slice Ao old.length co] 34)).alloc (.cells #[.slice A0 st.length c0, .slice A1 d.length c1, .slice A2 x.length c2] 37)).heap[w.heap.size]? = some (.cells #[.slice Ao old.length co] 34 (0, 0))) := ⟨blk_alloc (blk_new w _) _⟩
  have HY0 : Hd (((w.alloc (.cells #[.slice Ao old.length co] 34)).alloc (.cells #[.slice A0 st.length c0, .slice A1 d.length c1, .slice A2 x.length c2] 37)).heap[w.heap.size + 1]? = some (.cells #[.slice A0 st.length c0, .slice A1 d.length c1, .slice A2 x.length c2] 37 (0, 0))) := ⟨by
    have := blk_new (w.alloc (.cells #[.slice Ao old.length co] 34)) (.cells #[.slice A0 st.length c0, .slice A1 d.length c1, .slice A2 x.length c2] 37)
    rw [World.size_alloc] at this
    exact this⟩
  have HIN := Hd.mk hin
  have HOw := Hd.mk hO
  have HEw := Hd.mk hE
  clear hb0 hE hO hin
  unfold EdV
  refine callsIn_wide.1 (callsIn_of_wp_marks (n := 0) Try.func40 rfl trivial (wpIn_wide.2 ?_) rfl)
  simp only [Try.ntmps40, List.size_toArray, List.length_cons, List.length_nil, Nat.reduceAdd, Nat.reduceSub, Array.replicate_succ, Array.replicate_zero, List.push_toArray, List.append_toArray, List.nil_append, List.cons_append]
  by_cases h16 : 16777216 < (old.length : Int)
  · have hE1 : appliedE old st d x = 1 := by unfold appliedE; rw [if_pos h16]
    have HE1 := Hd.mk hE1
    clear hE1
    go_wp2
    exact leaveA (v := .slice none 0 0) (u := .int .i64 1) rfl rfl ⟨_, by rw [HE1.out], by rw [show applied old st d x = [] from if_neg (by rw [HE1.out]; decide)]; exact own_nil _ _ _ _, HB0.out⟩
  have hE1 : appliedE old st d x = if (ited st d x).2 ≠ 0 then (ited st d x).2 else if rds old.length st 0 = false then 161 else 0 := by unfold appliedE; rw [if_neg h16]
  have hit := itself_c HE0.out
  obtain ⟨⟨n, er⟩, hie⟩ : ∃ r, ited st d x = r := ⟨_, rfl⟩
  rw [hie] at hit hE1
  simp only at hE1
  have HIT := Hd.mk hit
  have HIE := Hd.mk hie
  have HE1 := Hd.mk hE1
  clear hit hie hE1
  unfold EdV at HIT
  go_wp2_with fail
  go_at_call 61
  refine HIT.out.mono ?_
  rintro e w1 ⟨rfl, hb1⟩
  have HX1 := Hd.mk (blk_below HX0.out hb1)
  have HY1 := Hd.mk (blk_below HY0.out hb1)
  have HB1 := Hd.mk (below_step HB0.out hb1)
  have HE1' := Hd.mk (HE0.out.below hb1)
  have HO1 := Hd.mk (Kd.C_below HO0.out hb1)
  have cx := blk_cell HX1.out 0
  have cy0 := blk_cell HY1.out 0
  have cy1 := blk_cell HY1.out 1
  have cy2 := blk_cell HY1.out 2
  simp at cx cy0 cy1 cy2
  clear hb1 HX0 HY0 HB0 HE0 HO0 HIT
  by_cases her : er ≠ 0
  · have hEr := HE1.out
    rw [if_pos her] at hEr
    have HEr := Hd.mk hEr
    have hne : (er != 0) = true := by simpa using her
    have HER := Hd.mk her
    clear hEr her
    go_wp2
    exact leaveA (v := .slice none 0 0) (u := .int .i64 er) rfl rfl ⟨_, by rw [HEr.out], by rw [show applied old st d x = [] from if_neg (by rw [HEr.out]; exact HER.out)]; exact own_nil _ _ _ _, HB1.out⟩
  obtain rfl : er = 0 := Decidable.not_not.1 her
  have hEr := HE1.out
  rw [if_neg (by decide)] at hEr
  have HEr := Hd.mk hEr
  clear her
  have hrd := reads_c (old.length : Int) HE1'.out.s HE1'.out.hs
  have HRD := Hd.mk hrd
  obtain ⟨rb, hrb⟩ : ∃ r, rds old.length st 0 = r := ⟨_, rfl⟩
  rw [hrb] at HRD HEr
  clear hEr HE1 hrd
  have HRB := Hd.mk hrb
  clear hrb
  go_wp2_with fail
  go_at_call 62
  refine HRD.out.mono ?_
  rintro e w2 ⟨rfl, hb2⟩
  have HX2 := Hd.mk (blk_below HX1.out hb2)
  have HY2 := Hd.mk (blk_below HY1.out hb2)
  have HB2 := Hd.mk (below_step HB1.out hb2)
  have HE2 := Hd.mk (HE1'.out.below hb2)
  have HO2 := Hd.mk (Kd.C_below HO1.out hb2)
  clear hb2 HX1 HY1 HB1 HE1' HO1 HRD cx cy0 cy1 cy2
  have cx := blk_cell HX2.out 0
  have cy0 := blk_cell HY2.out 0
  have cy1 := blk_cell HY2.out 1
  have cy2 := blk_cell HY2.out 2
  simp at cx cy0 cy1 cy2
  cases rb with
  | false =>
    have HEr' := HEr.out
    rw [if_pos rfl] at HEr'
    have HEr2 := Hd.mk HEr'
    clear HEr'
    go_wp2
    exact leaveA (v := .slice none 0 0) (u := .int .i64 161) rfl rfl ⟨_, by rw [HEr2.out], by rw [show applied old st d x = [] from if_neg (by rw [HEr2.out]; decide)]; exact own_nil _ _ _ _, HB2.out⟩
  | true =>
    have HEr' := HEr.out
    rw [if_neg (by decide)] at HEr'
    have HEr2 := Hd.mk HEr'
    have hinn := Hd.mk (HIN.out HEr')
    have hap : applied old st d x = (og st d x 0).map (ob old) := if_pos HEr'
    have hok := HIE.out
    unfold ited at hok
    have hall : st.all may = true := by
      by_cases h : st.all may = true
      · exact h
      · rw [if_neg h] at hok; simp at hok
    rw [if_pos hall] at hok
    have hsum : sA st + sC st ≤ 16777216 ∧ sA st = d.length ∧ sC st = x.length := by
      by_cases h : sA st + sC st ≤ 16777216 ∧ sA st = d.length ∧ sC st = x.length
      · exact h
      · rw [if_neg h] at hok; simp at hok
    rw [if_pos hsum] at hok
    have hn : n = ((og st d x 0).length : Int) := by
      rw [og_len st d x 0 hall hsum.2.1 hsum.2.2]
      simpa using (congrArg Prod.fst hok).symm
    obtain ⟨N, hN⟩ : ∃ N, (og st d x 0).length = N := ⟨_, rfl⟩
    rw [hN] at hn
    subst hn
    have hN24 : N ≤ 16777216 := by
      have := og_len st d x 0 hall hsum.2.1 hsum.2.2
      rw [hN] at this
      omega
    have HNL := Hd.mk hN
    have HALL := Hd.mk hall
    have HSUM := Hd.mk hsum
    have HAP := Hd.mk hap
    clear HEr' HEr HIN hap hok hall hsum hN HIE
    obtain ⟨i0, hi, hz0, hz1, hz2⟩ := info_parts eltB.hi
    obtain ⟨w3, hmk, hr3, hg3⟩ := run_make_own (P := Try.prog) w2 w.heap.size 34 5 i0 (.int .u8 0) 1 eltB.ht hi hz0 hz1 .i64 .i64 N (by rw [hz2]; omega) (by simp only [maxLen]; omega) HB2.out.size
    have hb3 : Below w2.heap.size w2 w3 := (Below.refl _ _).grown hg3 (Nat.le_refl _) (fun k e => by cases e)
    have HR3 := Hd.mk hr3
    have HX3 := Hd.mk (blk_below HX2.out hb3)
    have HY3 := Hd.mk (blk_below HY2.out hb3)
    have HB3 := Hd.mk (below_step HB2.out hb3)
    have HG3 := Hd.mk hb3
    have hlt2 := blk_lt HX2.out
    clear hi hz0 hz1 hz2 hr3 hg3 hb3 cx cy0 cy1 cy2 HX2 HY2 HO2 HE2
    have cx := blk_cell HX3.out 0
    have cy0 := blk_cell HY3.out 0
    have cy1 := blk_cell HY3.out 1
    have cy2 := blk_cell HY3.out 2
    simp at cx cy0 cy1 cy2
    have hlX := blk_lt HX3.out
    have hlY := blk_lt HY3.out
    go_wp2_with fail
    have hEm := HEw.out.below (Below.alloc HB3.out HB3.out.size (.cells #[.slice (some ⟨w2.heap.size, 0, none⟩) 0 N] 34))
    refine (origins_calls A0 c0 st A1 c1 d A2 c2 x _ hEm).mono ?_
    rintro e w4 ⟨Be, rfl, hEB, hb4, hBe⟩
    have hsz3 := HB3.out.size
    have hsg3 := HG3.out.size
    have h8 := blk_below (blk_new w3 (.cells #[.slice (some ⟨w2.heap.size, 0, none⟩) 0 N] 34)) hb4
    have hr4 := pw_own_below (pw_own_below HR3.out ((Below.refl w3.heap.size w3).alloc (Nat.le_refl _) (.cells #[.slice (some ⟨w2.heap.size, 0, none⟩) 0 N] 34))) hb4
    have hx4 := blk_below (blk_alloc HX3.out (.cells #[.slice (some ⟨w2.heap.size, 0, none⟩) 0 N] 34)) hb4
    have hlr := own_lt HR3.out w2.heap.size (by simp [Value.ownBlock])
    rw [World.size_alloc] at hBe
    have hb4' := below_step (Below.alloc HB3.out HB3.out.size (.cells #[.slice (some ⟨w2.heap.size, 0, none⟩) 0 N] 34)) hb4
    obtain ⟨L, hL⟩ : ∃ L, og st d x 0 = L := ⟨_, rfl⟩
    rw [hL] at HNL hinn HAP
    have hbl : (L.map (ob old)).length = N := by rw [List.length_map, HNL.out]
    obtain ⟨bs, hbs⟩ : ∃ bs, L.map (ob old) = bs := ⟨_, rfl⟩
    rw [hbs] at hbl HAP
    have HA0 : Hd (AI w w3.heap.size bs [(Be, .cells #[.slice A0 st.length c0, .slice A1 d.length c1, .slice A2 x.length c2] 37), (w.heap.size, .cells #[.slice Ao old.length co] 34)] 0 w4 (.slice (some ⟨w2.heap.size, 0, none⟩) 0 N)) := ⟨h8, by simpa [nums] using hr4, ⟨fun q hq => by
      simp only [List.mem_cons, List.not_mem_nil, or_false] at hq
      rcases hq with rfl | rfl
      · exact ⟨hEB.b, rfl, by simp only; omega, by simp [Value.ownBlock]; omega⟩
      · exact ⟨hx4, rfl, by simp only; omega, by simp [Value.ownBlock]; omega⟩⟩, hb4'⟩
    have HBS := Hd.mk hbs
    have HL := Hd.mk hL
    have HBL := Hd.mk hbl
    obtain ⟨b8, hb8⟩ : ∃ b, w3.heap.size = b := ⟨_, rfl⟩
    rw [hb8] at HA0 ⊢
    have hb8w : w.heap.size ≤ b8 := by omega
    have hw4 := hb4'.size
    clear h8 hr4 hx4 hb4' hb4 hEB hEm hbs hL hbl cx cy0 cy1 cy2 hlX hlY HX3 HY3 HR3 HB3 hlr hmk
    go_wp2_with fail
    refine (wpIn_wide (n := 0)).1 ?_
    refine wp_rangeX (F := Fence.wide) rfl rfl (gf := 80) (lb := #[.pointer (some ⟨Be, 0, none⟩)]) rfl trivial (enters_of Try.func80 (by kernel_rfl) rfl) (fun i => #[enc89 (L.getD i z94)]) (fun _ => rfl) N
      (fun X i W => ∃ v, AI w b8 bs (X ++ [(Be, .cells #[.slice A0 st.length c0, .slice A1 d.length c1, .slice A2 x.length c2] 37), (w.heap.size, .cells #[.slice Ao old.length co] 34)]) i W v) (fun _ _ => False) (fun _ _ => False) (.inl fun _ _ h => h)
      ⟨_, HA0.out⟩ (fun X i W W' h k => by obtain ⟨v, h⟩ := h; exact ⟨v, h.bk hw4 k⟩) (fun X i W o ho h => by obtain ⟨v, h⟩ := h; exact ⟨v, h.grow o ho⟩) (fun _ _ _ h _ => h) (fun _ _ _ h _ => h) ?seq ?round ?done (fun _ _ _ _ h _ => h.elim) (fun _ _ _ _ h _ => h.elim)
    case seq =>
      intro l W1 J Jx Jp hb1 hl hl2 hJI hGr hst _ _ hY h0
      have := org1_in (fun _ => True) trivial l Be W1.heap.size A0 c0 st A1 c1 d A2 c2 x J Jx Jp HALL.out HSUM.out.2.1 HSUM.out.2.2 (fun X i W hJ => by
        obtain ⟨v, h⟩ := hJI X i W hJ
        refine ⟨⟨(h.fx.at_ _ (List.mem_append_right _ List.mem_cons_self)).1, HEw.out.below h.be⟩, fun q hq => (h.fx.at_ q (List.mem_append_left _ hq)).1⟩) hGr hst (by rw [HL.out, HNL.out]; exact hY) W1 h0
      rw [HL.out, HNL.out] at this
      exact this
    case round =>
      rintro X l o i W hi ⟨v, hA⟩ hl ho hc
      obtain ⟨Av, cv, rfl⟩ := own_slice hA.row
      obtain ⟨⟨fr, at_, by_⟩, hg⟩ : ∃ r, L.getD i z94 = r := ⟨_, rfl⟩
      simp only [hg]
      dsimp only [enc89]
      have HG := Hd.mk hg
      have HA := Hd.mk hA
      clear hg hA ho
      gi_wp2
      refine ⟨KeepsOthers.alloc _ _, fun W2 hb2 => ?_⟩
      have hA2 := (HA.out.grow (.cells #[.bool (!fr), .int .i64 at_, .int .u8 by_] 140) rfl).bk hw4 hb2
      have h9 := (hA2.fx.at_ _ (List.mem_cons_self)).1
      have c90 := blk_cell h9 0
      have c91 := blk_cell h9 1
      have c92 := blk_cell h9 2
      have c8 := blk_cell hA2.bx 0
      have f8 := blk_frozen hA2.bx 0
      simp at c90 c91 c92 c8
      have hA3 := Hd.mk hA2.less
      have hiL : i < L.length := by rw [HNL.out]; exact hi
      have hib : i < bs.length := by rw [HBL.out]; exact hi
      have hval : bs.getD i 0 = ob old ⟨fr, at_, by_⟩ := by
        rw [← HBS.out, ← HG.out, List.getD_eq_getElem?_getD, List.getElem?_map, List.getElem?_eq_getElem hiL, List.getD_eq_getElem?_getD, List.getElem?_eq_getElem hiL]
        rfl
      have hmem : (⟨fr, at_, by_⟩ : S94) ∈ L := by
        rw [← HG.out, List.getD_eq_getElem?_getD, List.getElem?_eq_getElem hiL, Option.getD_some]
        exact List.getElem_mem hiL
      cases fr with
      | false =>
        simp only [ob] at hval
        rw [if_neg (by decide)] at hval
        obtain ⟨v', w', hrun, hbx', hko, hA'⟩ := hA3.out.push hib _ hval (by rw [HBL.out]; exact hN24) hb8w
        obtain ⟨Av', cv', rfl⟩ := own_slice hA'.row
        have c8' := blk_cell hbx' 0
        have f8' := blk_frozen hbx' 0
        simp at c8'
        have c90' : W2.cell? ⟨W.heap.size, 0, none⟩ = some (.bool true) := c90
        clear c90
        have HKO := Hd.mk hko
        have HA' := Hd.mk hA'
        clear hA2 h9 hval hmem hko hA' hb2
        gi_wp2
        exact ⟨HKO.out, _, HA'.out⟩
      | true =>
        have c90' : W2.cell? ⟨W.heap.size, 0, none⟩ = some (.bool false) := c90
        clear c90
        obtain ⟨ha0, ha1⟩ := hinn.out _ hmem rfl
        simp only at ha0 ha1
        obtain ⟨k, rfl⟩ := Int.eq_ofNat_of_zero_le ha0
        obtain ⟨ad, e, hca⟩ := Kd.at_int (Kd.C_below HOw.out hA2.be) (k : Int) ha0 ha1
        subst e
        simp only [Int.toNat_natCast] at hca
        have hol := blk_cell (hA2.fx.at_ _ (List.mem_cons_of_mem _ (List.mem_append_right _ (List.mem_cons_of_mem _ List.mem_cons_self)))).1 0
        simp at hol
        simp only [ob, if_true] at hval
        obtain ⟨v', w', hrun, hbx', hko, hA'⟩ := hA3.out.drew.push hib _ hval (by rw [HBL.out]; exact hN24) hb8w
        obtain ⟨Av', cv', rfl⟩ := own_slice hA'.row
        have c8' := blk_cell hbx' 0
        have f8' := blk_frozen hbx' 0
        simp at c8'
        have HKO := Hd.mk ((KeepsOthers.drew W2).trans hko)
        have HA' := Hd.mk hA'
        clear hA2 h9 hval hmem hko hA' hb2
        have hmx : Try.prog.follows .mixedOrders = true := by kernel_rfl
        have hrun2 : (Builtin.append_ #[34, 34] 34 #[.slice Av i cv, .slice (some ⟨W2.heap.size, 0, none⟩) 1 1]).run Try.prog ((W2.alloc (.cells #[.int .u8 (IntKind.u8.wrap (rd old k + by_))] 5)).drew) = .ok (.slice Av' (i + 1) cv') w' := hrun
        clear hrun
        have c8d : W2.drew.cell? ⟨b8, 0, none⟩ = some (.slice Av i cv) := c8
        have hold : W2.drew.cell? ⟨w.heap.size, 0, none⟩ = some (.slice (some ad) old.length co) := hol
        have c91d : W2.drew.cell? ⟨W.heap.size, 1, none⟩ = some (.int .i64 k) := c91
        have c92d : W2.drew.cell? ⟨W.heap.size, 2, none⟩ = some (.int .u8 by_) := c92
        have hcad : W2.drew.cell? (ad.add k) = some (.int .u8 (rd old k)) := hca
        have hba := Hd.mk ((Below.refl W2.drew.heap.size W2.drew).alloc (Nat.le_refl _) (.cells #[.int .u8 (IntKind.u8.wrap (rd old k + by_))] 5))
        gi_wp2
        refine startIn_ (by kernel_rfl) (by rintro ⟨_, _, h⟩; exact h) (n := 12) (S := fun w' => w'.cell? ⟨b8, 0, none⟩ = some (.slice Av i cv) ∧ w'.cell? ⟨w.heap.size, 0, none⟩ = some (.slice (some ad) old.length co) ∧ w'.cell? ⟨W.heap.size, 1, none⟩ = some (.int .i64 k) ∧ w'.cell? (ad.add k) = some (.int .u8 (rd old k)) ∧ w'.cell? ⟨W.heap.size, 2, none⟩ = some (.int .u8 by_)) (ds := [10, 11]) #[false, false, false, false, false, false, false, false, false, false, false, false] (by kernel_rfl) rfl rfl ⟨c8d, hold, c91d, hcad, c92d⟩ (fun hHeld => ?_)
        refine pure_ (i := 2) (N := some 41) (v := ?_) (a' := ?_) #[false, false, true, false, false, false, false, false, false, false, false, false] rfl rfl (by kernel_rfl) (fun _ _ _ h => h) (Or.inl ⟨by rfl, ?_⟩) ?_ ?_
        rotate_left
        · intro w'
          go_simp
          with_reducible rfl
        rotate_left
        · simp only [Act.put, List.setIfInBounds_toArray, List.set_cons_zero, List.set_cons_succ, i64_w, i32_w]
          rfl
        refine pure_ (i := 6) (N := some 45) (v := ?_) (a' := ?_) #[false, false, true, false, false, false, true, false, false, false, false, false] rfl rfl (by kernel_rfl) (fun _ _ _ h => h) (Or.inl ⟨by rfl, ?_⟩) ?_ ?_
        rotate_left
        · intro w'
          go_simp
          with_reducible rfl
        rotate_left
        · simp only [Act.put, List.setIfInBounds_toArray, List.set_cons_zero, List.set_cons_succ, i64_w, i32_w]
          rfl
        refine take_ (i := 0) (N := some 39) (v := ?_) (a' := ?_) #[true, false, true, false, false, false, true, false, false, false, false, false] rfl rfl (by kernel_rfl) (fun _ _ _ h => h) (Or.inl ⟨by rfl, ?_⟩) hHeld ?_ ?_
        rotate_left
        · rintro w' ⟨s0, s1, s2, s3, s4⟩
          go_simp
          with_reducible rfl
        rotate_left
        · simp only [Act.put, List.setIfInBounds_toArray, List.set_cons_zero, List.set_cons_succ, i64_w, i32_w]
          rfl
        refine take_ (i := 1) (N := some 40) (v := ?_) (a' := ?_) #[true, true, true, false, false, false, true, false, false, false, false, false] rfl rfl (by kernel_rfl) (fun _ _ _ h => h) (Or.inl ⟨by rfl, ?_⟩) hHeld ?_ ?_
        rotate_left
        · rintro w' ⟨s0, s1, s2, s3, s4⟩
          go_simp
          with_reducible rfl
        rotate_left
        · simp only [Act.put, List.setIfInBounds_toArray, List.set_cons_zero, List.set_cons_succ, i64_w, i32_w]
          rfl
        refine take_ (i := 3) (N := some 42) (v := ?_) (a' := ?_) #[true, true, true, true, false, false, true, false, false, false, false, false] rfl rfl (by kernel_rfl) (fun _ _ _ h => h) (Or.inl ⟨by rfl, ?_⟩) hHeld ?_ ?_
        rotate_left
        · rintro w' ⟨s0, s1, s2, s3, s4⟩
          go_simp
          with_reducible rfl
        rotate_left
        · simp only [Act.put, List.setIfInBounds_toArray, List.set_cons_zero, List.set_cons_succ, i64_w, i32_w]
          rfl
        refine pure_ (i := 4) (N := some 43) (v := ?_) (a' := ?_) #[true, true, true, true, true, false, true, false, false, false, false, false] rfl rfl (by kernel_rfl) (fun _ _ _ h => h) (Or.inl ⟨by rfl, ?_⟩) ?_ ?_
        rotate_left
        · intro w'
          go_simp
          with_reducible rfl
        rotate_left
        · simp only [Act.put, List.setIfInBounds_toArray, List.set_cons_zero, List.set_cons_succ, i64_w, i32_w]
          rfl
        refine take_ (i := 5) (N := some 44) (v := ?_) (a' := ?_) #[true, true, true, true, true, true, true, false, false, false, false, false] rfl rfl (by kernel_rfl) (fun _ _ _ h => h) (Or.inl ⟨by rfl, ?_⟩) hHeld ?_ ?_
        rotate_left
        · rintro w' ⟨s0, s1, s2, s3, s4⟩
          go_simp
          with_reducible rfl
        rotate_left
        · simp only [Act.put, List.setIfInBounds_toArray, List.set_cons_zero, List.set_cons_succ, i64_w, i32_w]
          rfl
        refine take_ (i := 7) (N := some 46) (v := ?_) (a' := ?_) #[true, true, true, true, true, true, true, true, false, false, false, false] rfl rfl (by kernel_rfl) (fun _ _ _ h => h) (Or.inl ⟨by rfl, ?_⟩) hHeld ?_ ?_
        rotate_left
        · rintro w' ⟨s0, s1, s2, s3, s4⟩
          go_simp
          with_reducible rfl
        rotate_left
        · simp only [Act.put, List.setIfInBounds_toArray, List.set_cons_zero, List.set_cons_succ, i64_w, i32_w]
          rfl
        refine pure_ (i := 8) (N := some 47) (v := ?_) (a' := ?_) #[true, true, true, true, true, true, true, true, true, false, false, false] rfl rfl (by kernel_rfl) (fun _ _ _ h => h) (Or.inl ⟨by rfl, ?_⟩) ?_ ?_
        rotate_left
        · intro w'
          go_simp
          with_reducible rfl
        rotate_left
        · simp only [Act.put, List.setIfInBounds_toArray, List.set_cons_zero, List.set_cons_succ, i64_w, i32_w]
          rfl
        refine one_ (i := 9) (N := some 48) #[true, true, true, true, true, true, true, true, true, true, false, false] rfl rfl (by kernel_rfl) (by decide) (fun K hK => ?_)
        refine value_ (w1 := ?_) (v := ?_) (by rfl) rfl ?_ ?_
        rotate_left 2
        · go_simp
          constructor
          · rfl
          · rfl
        refine hK.out _ _ ⟨pw_cell_below hba.out c8d, pw_cell_below hba.out hold, pw_cell_below hba.out c91d, pw_cell_below hba.out hcad, pw_cell_below hba.out c92d⟩ (fun hHeld => ?_)
        clear hK K
        refine norm_ (a' := ?_) ?_ ?_
        rotate_left
        · show Act.put _ (some 48) _ = _
          simp only [Act.put, List.setIfInBounds_toArray, List.set_cons_zero, List.set_cons_succ, i64_w, i32_w]
          rfl
        refine last_ (i := 10) (N := some 49) #[true, true, true, true, true, true, true, true, true, true, true, false] rfl rfl (by kernel_rfl) (by decide) (fun K hK => ?_)
        refine value_ (w1 := w') (v := .slice Av' (i + 1) cv') (by rfl) rfl ?_ ?_
        · (go_simp; first | done | (rw [hrun2]; rfl))
        refine hK.out _ _ ?_
        clear hK K
        refine norm_ (a' := ?_) ?_ ?_
        rotate_left
        · show Act.put _ (some 49) _ = _
          simp only [Act.put, List.setIfInBounds_toArray, List.set_cons_zero, List.set_cons_succ, i64_w, i32_w]
          rfl
        refine last_ (i := 11) (N := none) #[true, true, true, true, true, true, true, true, true, true, true, true] rfl rfl (by kernel_rfl) (by decide) (fun K hK => ?_)
        refine skip_ (w1 := ?_) (by rfl) rfl ?_ ?_
        rotate_left
        · go_simp
          rfl
        refine hK.out _ _ ?_
        clear hK K
        refine done_ (by kernel_rfl) ?_
        exact ⟨HKO.out, _, HA'.out⟩
    case done =>
      rintro X D W hD ⟨v, hA⟩ hd
      have c8 := blk_cell hA.bx 0
      simp at c8
      have HA := Hd.mk hA
      have HD := Hd.mk hd
      clear hA hd
      go_wp2
      refine ⟨by simp, .inl ⟨_, _, rfl, run_takeDeferred HD.out, leaveA (v := v) (u := .int .i64 0) rfl rfl ⟨v, by rw [HEr2.out], ?_, ?_⟩⟩⟩
      · have h := own_bk HA.out.row (Bk.putObj (n := w4.heap.size) (o' := .deferred none) hD HD.out rfl)
        rw [HAP.out, HBL.out]
        rwa [List.take_of_length_le (by rw [HBL.out]; exact Nat.le_refl _)] at h
      · exact Bk.below HA.out.be HA.out.be.size (Bk.putObj (n := w.heap.size) (o' := .deferred none) (by omega) HD.out rfl)
end Go.Proofs.Ytmfnjmecnhagmaa
