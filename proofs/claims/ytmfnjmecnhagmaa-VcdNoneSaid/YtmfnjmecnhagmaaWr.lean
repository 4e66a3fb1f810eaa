/- vcd: written, of the example's one instruction. -/
import Derived.Test.YtmfnjmecnhagmaaIn
namespace Go.Proofs.Ytmfnjmecnhagmaa
open Go.RowKit Go.ChangeShapes Go.WideShapes Go.Shelf Go.Maps Go.Proofs.YtmfnjmecnhagmaaW.PrintWords Go.Proofs.YtmfnjmecnhagmaaW.PrintLast Go.Proofs.YtmfnjmecnhagmaaW.PrintMore Go.Proofs.Ytmfnjmecnhagmaa.Pr
set_option linter.unusedVariables false
set_option linter.unusedSimpArgs false
abbrev OB (w : World) (base : Nat) (v : Value) (xs : List Int) : Prop := w.ownsRow base 5 1 v xs.length (nums .u8 xs)
theorem pushB {W : World} {base : Nat} {v : Value} {l : List Int} (h : OB W base v l) (hb : base ≤ W.heap.size) (b : Int) (hl : l.length ≤ 1000000000) :
    ∃ v' w', (Builtin.append_ #[34, 34] 34 #[v, .slice (some ⟨W.heap.size, 0, none⟩) 1 1]).run Try.prog (W.alloc (.cells #[.int .u8 b] 5)) = .ok v' w' ∧ OB w' base v' (l ++ [b]) ∧ (W.alloc (.cells #[.int .u8 b] 5)).grownBy w' v.ownBlock ∧ Below base W w' := by
  have hba := (Below.refl W.heap.size W).alloc (Nat.le_refl _) (.cells #[.int .u8 b] 5)
  obtain ⟨v', w', h1, h2, h3, _, _⟩ := run_app (P := Try.prog) (W.alloc (.cells #[.int .u8 b] 5)) base 34 34 5 (.int .u8 0) 1 1 eltB v _ _ (pw_own_below h hba) (some ⟨W.heap.size, 0, none⟩) 1 1 [.int .u8 b] (Src.one W (.int .u8 b) 5 rfl) (by omega) (Nat.le_trans hb hba.size)
  refine ⟨v', w', h1, ?_, h3, ?_⟩
  · rw [OB, nums_append, List.length_append]
    exact h2
  · exact (hba.mono hb).grown h3 (Nat.le_trans hb hba.size) (own_base (pw_own_below h hba))
theorem pushB0 (W : World) (base : Nat) (b : Int) (hb : base ≤ W.heap.size) : ∃ A c w', (Builtin.append_ #[34, 34] 34 #[.slice none 0 0, .slice (some ⟨W.heap.size, 0, none⟩) 1 1]).run Try.prog (W.alloc (.cells #[.int .u8 b] 5)) = .ok (.slice A 1 c) w' ∧ OB w' base (.slice A 1 c) [b] ∧ Below W.heap.size W w' := by
  have hn : OB W base (.slice none 0 0) [] := own_nil _ _ _ _
  obtain ⟨v, w', h1, h2, h3, _⟩ := pushB (l := []) hn hb b (by decide)
  obtain ⟨A, c, rfl⟩ := own_slice h2
  exact ⟨A, c, w', h1, h2, ((Below.refl W.heap.size W).alloc (Nat.le_refl _) _).grown h3 (by simp) (fun k e => by cases e)⟩
theorem wpList_lookup_run {P : Program} {ops : Array Oper} {rest : List Oper} {o : Oper} {a : Act} {w : World} {Q : Exit → Act → World → Prop} (hg : o.guard = none) (ty : TypeId) (m x : Operand) (c : Bool) (ho : o.op = .lookup ty m x c) (u v r : Value) (hm : a.eval m = u) (hx : a.eval x = v)
    (hrun : (Instr.lookup ty u v c).run P w = .ok r w) (h : wpList P ops Q rest (a.put o.dst r) w) : wpList P ops Q (o :: rest) a w :=
  wpList_plain hg fun K hK => by
    unfold Oper.wp
    simp [execOp, ho, hm, hx, hrun, Result.andThen]
    exact hK _ _ h
theorem code120 : codesF 256 ((3, 8, 6), hz) = some 120 := by decide +kernel
theorem tell8 : tellR kc0 0 8 = (6, 0) := by decide +kernel
theorem wf386 : wfP ((3, 8, 6), hz) := ⟨⟨by unfold wfI; decide, by unfold wfI; decide, by unfold wfI; decide⟩, by unfold wfI; decide, by unfold wfI; decide, by unfold wfI; decide⟩
theorem OH.cells {e : TypeId} {W : World} {b n c : Nat} {A : Option Addr} {l : List Hf} (h : OH e W b (.slice A n c) l) (hn : l ≠ []) : ∃ g, A = some ⟨g, 0, none⟩ ∧ ∀ q u, (l.flatMap hcells)[q]? = some u → W.cell? ⟨g, q, none⟩ = some u := by
  have h2 := h.2
  rcases h2 with ⟨e1, e2⟩ | ⟨g, cap, cur, e1, _⟩
  · exact absurd (List.eq_nil_of_length_eq_zero e2) hn
  · cases e1
    refine ⟨g, rfl, fun q u hu => ?_⟩
    have := World.ownsRow.cells h (g := g) rfl q u hu
    rwa [Go.Proofs.YtmfnjmecnhagmaaW.PrintWords.add_plain] at this
theorem make1 (w : World) : (Instr.makeSlice 168 (.int .i64 1) (.int .i64 1)).run Try.prog w = .ok (.slice (some ⟨w.heap.size, 0, none⟩) 1 1) (w.alloc (.cells #[.int .i64 0, .int .i64 0, .int .i64 0] 24)) := by kernel_rfl
attribute [-go_sem] Builtin.append_
set_option maxRecDepth 100000 in
set_option maxHeartbeats 8000000 in
theorem written8 {W : World} {base b : Nat} {A : Option Addr} {c : Nat} (h : OH 90 W base (.slice A 1 c) [(3, 8, 0)]) (hm : MapT W b 256 (codesF 256)) : Calls Try.prog 70 #[.slice A 1 c, .int .i64 8, .map (some b)] W fun e w' => ∃ A1 c1 A2 c2, e = .returned (.tuple #[.slice A1 1 c1, .slice A2 1 c2]) ∧ OB w' W.heap.size (.slice A1 1 c1) [120] ∧ OB w' W.heap.size (.slice A2 1 c2) [0] ∧ Below W.heap.size W w' := by
  have HH := Hd.mk h
  have HM := Hd.mk hm
  clear h hm
  go_enter Try.func70, Try.ntmps70
  go_wp2_with fail
  refine (newCache_c W).mono ?_
  rintro e w1 ⟨rfl, hk, hb⟩
  have HK := Hd.mk hk
  have HB1 := Hd.mk hb
  clear hk hb
  have hmk := make1 w1
  have hba := (Below.refl w1.heap.size w1).alloc (Nat.le_refl _) (.cells #[.int .i64 0, .int .i64 0, .int .i64 0] 24)
  have hX := blk_new w1 (.cells #[.int .i64 0, .int .i64 0, .int .i64 0] 24)
  obtain ⟨gh, hgh⟩ : ∃ g, w1.heap.size = g := ⟨_, rfl⟩
  obtain ⟨w2, hw2⟩ : ∃ v, w1.alloc (.cells #[.int .i64 0, .int .i64 0, .int .i64 0] 24) = v := ⟨_, rfl⟩
  rw [hw2, hgh] at hmk hX
  rw [hw2] at hba
  have HGH := Hd.mk hgh
  have HX2 := Hd.mk hX
  have HK2 := Hd.mk (HK.out.below hba)
  have HB2 := Hd.mk (below_step HB1.out hba)
  have hgl : W.heap.size < gh := by rw [← hgh]; exact HK.out.lt
  clear hba hX hgh hw2 HK HB1
  have hx0 := blk_cell HX2.out 0
  have hx1 := blk_cell HX2.out 1
  have hx2 := blk_cell HX2.out 2
  simp at hx0 hx1 hx2
  have hf0 := blk_frozen HX2.out 0
  have hf1 := blk_frozen HX2.out 1
  have hf2 := blk_frozen HX2.out 2
  have HH2 := Hd.mk (pw_own_below HH.out HB2.out)
  obtain ⟨gi, hA, hcell⟩ := OH.cells HH2.out (by simp)
  subst hA
  have i0 : w2.cell? ⟨gi, 0, none⟩ = some (.int .i64 3) := hcell 0 _ rfl
  have i1 : w2.cell? ⟨gi, 1, none⟩ = some (.int .i64 8) := hcell 1 _ rfl
  have i2 : w2.cell? ⟨gi, 2, none⟩ = some (.int .i64 0) := hcell 2 _ rfl
  clear hcell
  go_wp2_with fail
  refine wp_loop_rounds 2 ?_
  rw [rounds_succ]
  have hba := (Below.refl w2.heap.size w2).alloc (Nat.le_refl _) (.cells #[.int .i64 3, .int .i64 8, .int .i64 0] 90)
  have hX := blk_new w2 (.cells #[.int .i64 3, .int .i64 8, .int .i64 0] 90)
  obtain ⟨gx, hgx⟩ : ∃ g, w2.heap.size = g := ⟨_, rfl⟩
  obtain ⟨w3, hw3⟩ : ∃ v, w2.alloc (.cells #[.int .i64 3, .int .i64 8, .int .i64 0] 90) = v := ⟨_, rfl⟩
  rw [hw3] at hba hX
  rw [hgx] at hX
  have HX3 := Hd.mk (blk_below HX2.out hba)
  have HK3 := Hd.mk (HK2.out.below hba)
  have HB3 := Hd.mk (below_step HB2.out hba)
  have HY3 := Hd.mk hX
  have HGX := Hd.mk hgx
  have HW3 := Hd.mk hw3
  have hxl : gh < gx := by rw [← hgx]; exact blk_lt HX2.out
  clear hba hX hgx hw3
  go_upto_region 8 with fail
  rw [HW3.out]
  simp only [HGX.out]
  clear hx0 hx1 hx2 hf0 hf1 hf2 i0 i1 i2 HW3 HX2 HK2 HB2 hmk
  have y0 := blk_cell HY3.out 0
  have y1 := blk_cell HY3.out 1
  have y2 := blk_cell HY3.out 2
  simp at y0 y1 y2
  have hsz24 : (Try.prog.info? 24).map (·.size) = some (#[Value.int .i64 3, .int .i64 8, .int .i64 0] : Array Value).size := info24
  have hone : (#[Value.int .i64 3, .int .i64 8, .int .i64 0] : Array Value).all (·.oneCell') = true := by simp [Value.oneCell']
  have hX4 := setRow_heap w3 gh _ #[.int .i64 3, .int .i64 8, .int .i64 0] 24 (0, 0) HX3.out
  have hO4 : On gh w3 (w3.setRow gh #[.int .i64 3, .int .i64 8, .int .i64 0]) := ⟨rfl, rfl, rfl, by simp, fun j hj => setRow_other w3 gh j _ hj⟩
  obtain ⟨w4, hw4⟩ : ∃ v, w3.setRow gh #[.int .i64 3, .int .i64 8, .int .i64 0] = v := ⟨_, rfl⟩
  rw [hw4] at hX4 hO4
  have HX4 := Hd.mk hX4
  have HY4 := Hd.mk ((hO4.blk gx (by omega)).trans HY3.out)
  have HK4 : Hd (KB w4 W.heap.size kc0) := ⟨by obtain ⟨cur, k1, k2⟩ := HK3.out.c; exact ⟨⟨cur, (hO4.blk _ (by omega)).trans k1, k2⟩, HK3.out.ln, HK3.out.lx, HK3.out.ls⟩⟩
  have HB4 := Hd.mk (HB3.out.trans (hO4.below (by omega)))
  have HW4 := Hd.mk hw4
  have hs4 : w4.heap.size = w3.heap.size := hO4.size
  have z0 := blk_cell HY4.out 0
  have z1 := blk_cell HY4.out 1
  have z2 := blk_cell HY4.out 2
  simp at z0 z1 z2
  clear hX4 hO4 hw4 hs4
  go_wp2_with (first | (refine wpList_store_row rfl 24 _ _ rfl gh #[.int .i64 3, .int .i64 8, .int .i64 0] rfl rfl 24 _ HX3.out hsz24 rfl hone ?_; rw [HW4.out]) | fail)
  have htell := tell_c HK4.out kc0_ok 0 8 (by decide) (by decide)
  rw [tell8] at htell
  have HTELL : Hd (Calls Try.prog 31 #[.pointer (some ⟨W.heap.size, 0, none⟩), .int .i64 0, .int .i64 8] w4 fun e w' => e = .returned (.tuple #[.int .i64 6, .int .i64 0, .int .i64 0]) ∧ KB w' W.heap.size (kc0.know 0) ∧ On W.heap.size w4 w') := ⟨htell⟩
  clear htell
  refine HTELL.out.mono ?_
  rintro e w5 ⟨rfl, _, ho5⟩
  have HX5 := Hd.mk ((ho5.blk gh (by omega)).trans HX4.out)
  have HY5 := Hd.mk ((ho5.blk gx (by omega)).trans HY4.out)
  have HB5 := Hd.mk (HB4.out.trans (ho5.below (Nat.le_refl _)))
  have hs5 := HB5.out.size
  clear ho5 HTELL HX4 HY4 HK4 HB4 HW4 z0 z1 z2 y0 y1 y2 hone hsz24 HX3 HY3 HK3 HB3
  have x0 := blk_cell HX5.out 0
  have x1 := blk_cell HX5.out 1
  have x2 := blk_cell HX5.out 2
  have z1 := blk_cell HY5.out 1
  simp at x0 x1 x2 z1
  have xf := blk_frozen HX5.out 2
  have hX6 := blk_set HX5.out 2 (.int .i64 6)
  have hY6 := (Below.heap_setCell w5 ⟨gh, 2, none⟩ (.int .i64 6) gx (by show gx ≠ gh; omega)).trans HY5.out
  have hB6 := HB5.out.setCell (p := ⟨gh, 2, none⟩) (by show W.heap.size ≤ gh; omega) (.int .i64 6)
  obtain ⟨w6, hw6⟩ : ∃ v, w5.setCell ⟨gh, 2, none⟩ (.int .i64 6) = v := ⟨_, rfl⟩
  rw [hw6] at hX6 hY6 hB6
  obtain ⟨A7, c7, w7, hrun7, ho7, hb7⟩ := pushB0 w6 W.heap.size 0 hB6.size
  have HX7 := Hd.mk (blk_below hX6 hb7)
  have HY7 := Hd.mk (blk_below hY6 hb7)
  have HB7 := Hd.mk (below_step hB6 hb7)
  have HO7 := Hd.mk ho7
  have HW6 := Hd.mk hw6
  have z7 := blk_cell HY7.out 1
  simp at z7
  clear hX6 hY6 hB6 ho7 hb7 hw6 HY5 HX5 HB5
  go_upto_region 12 with fail
  rw [HW6.out]
  clear HW6 x0 x1 x2 xf
  go_wp2_with fail
  rw [rounds_succ]
  go_wp2_with fail
  refine wp_loop_rounds 2 ?_
  rw [rounds_succ]
  clear hrun7 z7 z1 hs5
  have x0 := blk_cell HX7.out 0
  have x1 := blk_cell HX7.out 1
  have x2 := blk_cell HX7.out 2
  simp at x0 x1 x2
  have hba := (Below.refl w7.heap.size w7).alloc (Nat.le_refl _) (.cells #[.int .i64 3, .int .i64 8, .int .i64 6] 24)
  have hX := blk_new w7 (.cells #[.int .i64 3, .int .i64 8, .int .i64 6] 24)
  obtain ⟨gy, hgy⟩ : ∃ g, w7.heap.size = g := ⟨_, rfl⟩
  obtain ⟨w8, hw8⟩ : ∃ v, w7.alloc (.cells #[.int .i64 3, .int .i64 8, .int .i64 6] 24) = v := ⟨_, rfl⟩
  rw [hw8] at hba hX
  rw [hgy] at hX
  have HW8 := Hd.mk hw8
  have HGY := Hd.mk hgy
  have HX8 := Hd.mk hX
  have HB8 := Hd.mk (below_step HB7.out hba)
  have HO8 := Hd.mk (pw_own_below HO7.out hba)
  have HM8 := Hd.mk (HM.out.below HB8.out)
  have hlk := (HM8.out.lookup wf386).2
  rw [code120] at hlk
  have hlk : (Instr.lookup 105 (.map (some b)) (.agg #[.int .i64 3, .int .i64 8, .int .i64 6, .int .i64 0, .int .i64 0, .int .i64 0]) true).run Try.prog w8 = .ok (.tuple #[.int .i64 120, .bool true]) w8 := hlk
  have HLK := Hd.mk hlk
  obtain ⟨A9, c9, w9, hrun9, ho9, hb9⟩ := pushB0 w8 W.heap.size 120 HB8.out.size
  have HR9 := Hd.mk hrun9
  have HO9 := Hd.mk ho9
  have HB9 := Hd.mk (below_step HB8.out hb9)
  have HP9 := Hd.mk (pw_own_below HO8.out hb9)
  clear hw8 hgy hX hba hlk hrun9 ho9 hb9
  go_upto_region 24 with fail
  rw [HW8.out]
  simp only [HGY.out]
  clear x0 x1 x2 HW8
  have y0 := blk_cell HX8.out 0
  have y1 := blk_cell HX8.out 1
  have y2 := blk_cell HX8.out 2
  simp at y0 y1 y2
  have hrun9 := HR9.out
  go_wp2_with (first | (refine wpList_lookup_run rfl 105 _ _ true rfl _ _ _ rfl rfl HLK.out ?_) | fail)
  rw [rounds_succ]
  clear hrun9 HR9 y0 y1 y2
  go_wp2_with fail
  go_ret2
  exact ⟨A9, c9, A7, c7, rfl, HO9.out, HP9.out, HB9.out⟩
end Go.Proofs.Ytmfnjmecnhagmaa
