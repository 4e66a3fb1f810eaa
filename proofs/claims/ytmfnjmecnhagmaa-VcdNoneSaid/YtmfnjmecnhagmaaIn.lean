/- vcd: plainInsts of no plain bytes. -/
import Derived.Test.YtmfnjmecnhagmaaKt
import Derived.Test.YtmfnjmecnhagmaaE2
namespace Go.Proofs.Ytmfnjmecnhagmaa
open Go.RowKit Go.ChangeShapes Go.WideShapes Go.Shelf Go.Maps Go.Proofs.YtmfnjmecnhagmaaW.PrintWords Go.Proofs.YtmfnjmecnhagmaaW.PrintLast Go.Proofs.YtmfnjmecnhagmaaW.PrintMore Go.Proofs.Ytmfnjmecnhagmaa.Pr
set_option linter.unusedVariables false
set_option linter.unusedSimpArgs false
theorem flush_none {W : World} {g : Nat} (h : W.heap[g]? = some (.cells #[.int .i64 0] 3 (0, 0))) (at_ : Int) (a b c : Addr) : Calls Try.prog 87 #[.int .i64 at_, .pointer (some ⟨g, 0, none⟩), .pointer (some a), .pointer (some b), .pointer (some c)] W fun e w' => e = .returned (.tuple #[]) ∧ w' = W := by
  have c0 := blk_cell h 0
  simp at c0
  clear h
  go_enter Try.func87, Try.ntmps87
  go_wp2
  go_end0
  exact ⟨rfl, rfl⟩
set_option maxRecDepth 100000 in
set_option maxHeartbeats 4000000 in
theorem plain_none (Ao : Option Addr) (no co : Nat) (Ab : Option Addr) (nb cb : Nat) (W : World) : Calls Try.prog 85 #[.slice Ao no co, .slice Ab nb cb, .slice none 0 0] W fun e w' => e = .returned (.tuple #[.slice Ao no co, .slice Ab nb cb]) ∧ Below W.heap.size W w' := by
  have hs1 : (W.alloc (.cells #[.slice Ao no co] 86)).heap.size = W.heap.size + 1 := World.size_alloc _ _
  have hs2 : ((W.alloc (.cells #[.slice Ao no co] 86)).alloc (.cells #[.slice Ab nb cb] 34)).heap.size = W.heap.size + 2 := by rw [World.size_alloc, hs1]
  have hs3 : (((W.alloc (.cells #[.slice Ao no co] 86)).alloc (.cells #[.slice Ab nb cb] 34)).alloc (.cells #[.slice none 0 0] 34)).heap.size = W.heap.size + 3 := by rw [World.size_alloc, hs2]
  have h0 := blk_alloc (blk_alloc (blk_alloc (blk_new W (.cells #[.slice Ao no co] 86)) (.cells #[.slice Ab nb cb] 34)) (.cells #[.slice none 0 0] 34)) (.cells #[.int .i64 0] 3)
  have h1 := blk_alloc (blk_alloc (blk_new (W.alloc (.cells #[.slice Ao no co] 86)) (.cells #[.slice Ab nb cb] 34)) (.cells #[.slice none 0 0] 34)) (.cells #[.int .i64 0] 3)
  have h2 := blk_alloc (blk_new ((W.alloc (.cells #[.slice Ao no co] 86)).alloc (.cells #[.slice Ab nb cb] 34)) (.cells #[.slice none 0 0] 34)) (.cells #[.int .i64 0] 3)
  have h3 := blk_new (((W.alloc (.cells #[.slice Ao no co] 86)).alloc (.cells #[.slice Ab nb cb] 34)).alloc (.cells #[.slice none 0 0] 34)) (.cells #[.int .i64 0] 3)
  rw [hs1] at h1
  rw [hs2] at h2
  rw [hs3] at h3
  have hb := (((((Below.refl W.heap.size W).alloc (Nat.le_refl _) (.cells #[.slice Ao no co] 86)).alloc (by rw [hs1]; omega) (.cells #[.slice Ab nb cb] 34)).alloc (by rw [hs2]; omega) (.cells #[.slice none 0 0] 34)).alloc (by rw [hs3]; omega) (.cells #[.int .i64 0] 3))
  obtain ⟨W1, hW1⟩ : ∃ v, (((W.alloc (.cells #[.slice Ao no co] 86)).alloc (.cells #[.slice Ab nb cb] 34)).alloc (.cells #[.slice none 0 0] 34)).alloc (.cells #[.int .i64 0] 3) = v := ⟨_, rfl⟩
  rw [hW1] at h0 h1 h2 h3 hb
  have HW1 := Hd.mk hW1
  have c0 := blk_cell h0 0
  have c1 := blk_cell h1 0
  have c2 := blk_cell h2 0
  simp at c0 c1 c2
  have H3 := Hd.mk h3
  have HB := Hd.mk hb
  clear hW1 h0 h1 h2 h3 hb hs1 hs2 hs3
  go_enter Try.func85, Try.ntmps85
  go_upto_region 2 with fail
  rw [HW1.out]
  go_wp2_with fail
  refine wp_loop_rounds 1 ?_
  rw [rounds_succ]
  go_wp2_with fail
  refine (flush_none H3.out 0 ⟨W.heap.size, 0, none⟩ ⟨W.heap.size + 1, 0, none⟩ ⟨W.heap.size + 2, 0, none⟩).mono ?_
  rintro e w1 ⟨rfl, rfl⟩
  go_wp2
  refine start_ (n := 4) (S := fun w' => w'.cell? ⟨W.heap.size, 0, none⟩ = some (.slice Ao no co) ∧ w'.cell? ⟨W.heap.size + 1, 0, none⟩ = some (.slice Ab nb cb)) (ds := []) #[false, false, false, false] (by kernel_rfl) rfl rfl ⟨c0, c1⟩ (fun hHeld => ?_)
  refine take_ (i := 0) (N := some 65) (v := ?_) (a' := ?_) #[true, false, false, false] rfl rfl (by kernel_rfl) (fun _ _ _ h => h) (Or.inl ⟨by rfl, ?_⟩) hHeld ?_ ?_
  rotate_left
  · rintro w' ⟨s0, s1⟩
    go_simp
    with_reducible rfl
  rotate_left
  · simp only [Act.put, List.setIfInBounds_toArray, List.set_cons_zero, List.set_cons_succ, i64_w, i32_w]
    rfl
  refine pure_ (i := 2) (N := some 6) (v := ?_) (a' := ?_) #[true, false, true, false] rfl rfl (by kernel_rfl) (fun _ _ _ h => h) (Or.inl ⟨by rfl, ?_⟩) ?_ ?_
  rotate_left
  · intro w'
    go_simp
    with_reducible rfl
  rotate_left
  · simp only [Act.put, List.setIfInBounds_toArray, List.set_cons_zero, List.set_cons_succ, i64_w, i32_w]
    rfl
  refine take_ (i := 1) (N := some 66) (v := ?_) (a' := ?_) #[true, true, true, false] rfl rfl (by kernel_rfl) (fun _ _ _ h => h) (Or.inl ⟨by rfl, ?_⟩) hHeld ?_ ?_
  rotate_left
  · rintro w' ⟨s0, s1⟩
    go_simp
    with_reducible rfl
  rotate_left
  · simp only [Act.put, List.setIfInBounds_toArray, List.set_cons_zero, List.set_cons_succ, i64_w, i32_w]
    rfl
  refine pure_ (i := 3) (N := some 7) (v := ?_) (a' := ?_) #[true, true, true, true] rfl rfl (by kernel_rfl) (fun _ _ _ h => h) (Or.inl ⟨by rfl, ?_⟩) ?_ ?_
  rotate_left
  · intro w'
    go_simp
    with_reducible rfl
  rotate_left
  · simp only [Act.put, List.setIfInBounds_toArray, List.set_cons_zero, List.set_cons_succ, i64_w, i32_w]
    rfl
  refine done_ (by kernel_rfl) ?_
  have HB2 := Hd.mk (below_step HB.out (Below.drew' w1))
  go_wp2
  go_ret2
  exact ⟨rfl, HB2.out⟩
/-- The origins of the first example's bytes. -/
def orgs8 : List S149 := [⟨0, 97⟩, ⟨1, 98⟩, ⟨2, 99⟩, ⟨3, 100⟩, ⟨4, 101⟩, ⟨5, 102⟩, ⟨6, 103⟩, ⟨7, 104⟩]
theorem stretch8 : vcd_stretch.f 20 orgs8 = some 8 := by decide +kernel
/-- A row of one's own of triples: instructions, halves. -/
def OH (e : TypeId) (w : World) (base : Nat) (v : Value) (l : List Hf) : Prop := w.ownsRow base e 3 v l.length (l.flatMap hcells)
theorem elt90 : Elt Try.prog 86 90 (.agg #[.int .i64 0, .int .i64 0, .int .i64 0]) 3 24 := ⟨Try.underlying86, by kernel_rfl, rfl, by decide, by decide⟩
theorem elt24 : Elt Try.prog 168 24 (.agg #[.int .i64 0, .int .i64 0, .int .i64 0]) 3 24 := ⟨Try.underlying168, by kernel_rfl, rfl, by decide, by decide⟩
theorem pushH {W : World} {base : Nat} {v : Value} {l : List Hf} {t e : TypeId} (E : Elt Try.prog t e (.agg #[.int .i64 0, .int .i64 0, .int .i64 0]) 3 24) (h : OH e W base v l) (hb : base ≤ W.heap.size) {g : Nat} {ty : TypeId} {a b c : Int} (hg : W.heap[g]? = some (.cells #[.int .i64 a, .int .i64 b, .int .i64 c] ty (0, 0))) (hl : l.length ≤ 1000000000) :
    ∃ v' w', (Builtin.append_ #[t, t] t #[v, .slice (some ⟨g, 0, none⟩) 1 1]).run Try.prog W = .ok v' w' ∧ OH e w' base v' (l ++ [(a, b, c)]) ∧ W.grownBy w' v.ownBlock := by
  have hsrc : Src W (some ⟨g, 0, none⟩) 1 3 (hcells (a, b, c)) := by
    refine ⟨rfl, fun j u hj => ⟨_, rfl, ?_⟩, by simp [hcells, Value.oneCell']⟩
    rw [Go.Proofs.YtmfnjmecnhagmaaW.PrintWords.add_plain, blk_cell hg]
    have hj2 : ([Value.int .i64 a, .int .i64 b, .int .i64 c] : List Value)[j]? = some u := hj
    rw [← hj2, List.getElem?_toArray]
  obtain ⟨v', w', h1, h2, h3, _, _⟩ := run_app (P := Try.prog) W base t t e _ 3 24 E v _ _ h (some ⟨g, 0, none⟩) 1 1 (hcells (a, b, c)) hsrc (by omega) hb
  exact ⟨v', w', h1, by rw [OH, List.length_append, List.flatMap_append, List.flatMap_singleton]; exact h2, h3⟩
attribute [-go_sem] Builtin.append_
set_option maxRecDepth 100000 in
set_option maxHeartbeats 4000000 in
theorem insts8 {W : World} {B : Option Addr} {b : Nat} (h : Kd.C k149 W B 8 orgs8) (hb : 8 ≤ b) : Calls Try.prog 69 #[.slice B 8 b] W fun e w' => ∃ A c, e = .returned (.tuple #[.slice A 1 c, .slice none 0 0]) ∧ OH 90 w' W.heap.size (.slice A 1 c) [(3, 8, 0)] ∧ Below W.heap.size W w' := by
  have HC := Hd.mk h
  have hst := vcd_stretch.calls 20 B b orgs8 8 W h hb stretch8
  have HST : Hd (Calls Try.prog 84 #[.slice B 8 b] W fun e w' => e = .returned (.int .i64 8) ∧ Drawn0 W w') := ⟨hst⟩
  clear h hst
  go_enter Try.func69, Try.ntmps69
  go_wp2_with fail
  refine wp_loop_rounds 2 ?_
  rw [rounds_succ]
  go_wp2_with fail
  refine HST.out.mono ?_
  rintro e w1 ⟨rfl, hd⟩
  have HB1 := Hd.mk (Drawn0.below hd)
  clear hd HST
  go_wp2_with fail
  refine (plain_none none 0 0 none 0 0 w1).mono ?_
  rintro e w2 ⟨rfl, hb2⟩
  have HB2 := Hd.mk (below_step HB1.out hb2)
  clear hb2 HB1
  obtain ⟨ad, hB, hc0, hc1⟩ := at_T149 (Kd.C_below HC.out HB2.out) 0 (by omega) (by omega)
  have hz : rd_T149 orgs8 0 = ⟨0, 97⟩ := rfl
  rw [hz] at hc0
  have ha0 : ad.add 0 = ad := by simp [Addr.add]
  have hc2 : w2.cell? ad = some (.int .i64 0) := by
    rw [show Int.toNat 0 * 2 = 0 from rfl, ha0] at hc0
    exact hc0
  have hba := (Below.refl w2.heap.size w2).alloc (Nat.le_refl _) (.cells #[.int .i64 3, .int .i64 8, .int .i64 0] 90)
  have hnl : OH 90 (w2.alloc (.cells #[.int .i64 3, .int .i64 8, .int .i64 0] 90)) W.heap.size (.slice none 0 0) [] := own_nil _ _ _ _
  obtain ⟨v3, w3, hrun, ho3, hg3⟩ := pushH (l := []) (a := 3) (b := 8) (c := 0) elt90 hnl (Nat.le_trans HB2.out.size hba.size) (blk_new w2 (.cells #[.int .i64 3, .int .i64 8, .int .i64 0] 90)) (by decide)
  have HO3 := Hd.mk ho3
  have HB3 := Hd.mk ((below_step HB2.out hba).grown hg3 (Nat.le_trans HB2.out.size hba.size) (fun k hk => by cases hk))
  obtain ⟨A3, c3, e3⟩ := own_slice HO3.out
  subst e3
  subst hB
  clear hc0 hc1 hz hba ho3 hg3 hnl
  go_wp2_with fail
  all_goals
    rw [rounds_succ]
    go_wp2_with fail
    refine (plain_none A3 1 c3 none 0 0 w3).mono ?_
    rintro e w4 ⟨rfl, hb4⟩
    have HO4 := Hd.mk (pw_own_below HO3.out hb4)
    have HB4 := Hd.mk (below_step HB3.out hb4)
    clear hb4 HO3 HB3
    go_wp2
    go_ret2
    exact ⟨A3, c3, rfl, HO4.out, HB4.out⟩
end Go.Proofs.Ytmfnjmecnhagmaa
