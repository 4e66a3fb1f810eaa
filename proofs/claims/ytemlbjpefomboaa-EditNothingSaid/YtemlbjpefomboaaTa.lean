/- edit: take, of a byte that is its own. -/
import Derived.Test.YtemlbjpefomboaaTk
import Derived.Test.YtemlbjpefomboaaMk
namespace Go.Proofs.Ytemlbjpefomboaa
open Go.RowKit Go.Shelf Go.Proofs.YtemlbjpefomboaaW.PrintWords Go.Proofs.YtemlbjpefomboaaW.PrintLast Go.Proofs.YtemlbjpefomboaaW.PrintMore Go.Proofs.Ytemlbjpefomboaa.Pr
set_option linter.unusedVariables false
set_option linter.unusedSimpArgs false
attribute [local go_sem] Oper.semAt_some
attribute [-go_sem] Builtin.append_
/-- What take leaves. -/
def TakeOk (base : Nat) (W0 : World) (S0 : Nat → Prop) (Z : List (Nat × Obj)) (Wk : World) (Bm : Nat) (r : Option TS) (e : Ending) (w' : World) : Prop :=
  match r with
  | some t => e = .returned (.tuple #[]) ∧ ∃ s d x, Mq base W0 S0 Z Wk w' Bm s d x t.st t.d t.x t.a
  | none => (∃ ch, e = .panicked ch ∧ ch = [{ v := .iface 107 (.agg #[]), recovered := false }]) ∧ ∃ s d x sl dl xl a, Mq base W0 S0 Z Wk w' Bm s d x sl dl xl a
theorem takeOk_no {base : Nat} {W0 : World} {S0 : Nat → Prop} {Z : List (Nat × Obj)} {Wk : World} {Bm : Nat} {r : Option TS} {w' : World} : ¬ TakeOk base W0 S0 Z Wk Bm r .outgrown w' := by
  intro h
  cases r with
  | some t => obtain ⟨h, _⟩ := h; cases h
  | none => obtain ⟨⟨_, h, _⟩, _⟩ := h; cases h
set_option maxRecDepth 100000 in
set_option maxHeartbeats 8000000 in
theorem take_a1 (base : Nat) (W0 : World) (S0 : Nat → Prop) (Z : List (Nat × Obj)) (W : World) (Bm : Nat) (s d x : Value) (dn : List S80) (c : S80) (dl xl : List Int) (a at_ b : Int)
    (h : Mq base W0 S0 Z W W Bm s d x (dn ++ [c]) dl xl a) (hn : dn.length ≤ 16777216) (hx : xl.length ≤ 16777216) (hc : 0 ≤ c.f1 ∧ c.f1 ≤ 16777216) :
    CallsIn (FN EX) 0 Try.prog 70 #[.pointer (some ⟨Bm, 0, none⟩), .agg #[.bool true, .int .i64 at_, .int .u8 b]] W (TakeOk base W0 S0 Z W Bm (some ⟨dn, some ⟨c.f0, c.f1 + 1, c.f2⟩, dl, xl ++ [b], a⟩)) := by
  obtain ⟨g, cp, rfl⟩ := h.form
  have h1 := h.add (.cells #[.bool true, .int .i64 at_, .int .u8 b] 89)
  have hz := (h1.z _ List.mem_cons_self).1
  have c0 := blk_cell h1.m.b 0
  have z0 := blk_cell hz 0
  have z1 := blk_cell hz 1
  have z2 := blk_cell hz 2
  obtain ⟨k1, k2⟩ := h1.at_ 1 (by omega)
  simp [getf] at c0 z0 z1 z2 k1
  have H1 := Hd.mk h1
  have hp := h1.poke 1 (by omega) (c.f1 + 1)
  have HP := Hd.mk hp
  clear h h1 hz hp
  refine callsIn_of_wp Try.func70 rfl ⟨_, Try.func70⟩ ?_ rfl
  simp only [Try.ntmps70, List.size_toArray, List.length_cons, List.length_nil, Nat.reduceAdd, Nat.reduceSub, Array.replicate_succ, Array.replicate_zero, List.push_toArray, List.append_toArray, List.nil_append, List.cons_append]
  gi_wp2
  obtain ⟨W2, hW2⟩ : ∃ w2, (W.alloc (.cells #[.bool true, .int .i64 at_, .int .u8 b] 89)).setCell ⟨g, dn.length * 3 + 1, none⟩ (.int .i64 (c.f1 + 1)) = w2 := ⟨_, rfl⟩
  rw [hW2] at HP ⊢
  clear hW2 c0 z0 z1 z2 k1 k2 H1
  have hd := HP.out.below (Below.drew' W2)
  have hz := (hd.z _ List.mem_cons_self).1
  have c2 := blk_cell hd.m.b 2
  have z2 := blk_cell hz 2
  simp at c2 z2
  obtain ⟨A, cx, w1, hrun, hb1, hq⟩ := hd.newX b (by omega)
  have hbd := Hd.mk (hd.below ((Below.refl W2.drew.heap.size W2.drew).alloc (Nat.le_refl _) (.cells #[.int .u8 b] 5)))
  have hba := Hd.mk ((Below.refl W2.drew.heap.size W2.drew).alloc (Nat.le_refl _) (.cells #[.int .u8 b] 5))
  have hrun2 : (Builtin.append_ #[25, 25] 25 #[x, .slice (some ⟨W2.heap.size, 0, none⟩) 1 1]).run Try.prog ((W2.alloc (.cells #[.int .u8 b] 5)).drew) = .ok (.slice A (xl.length + 1) cx) w1 := hrun
  clear hrun
  have e2 := blk_cell hb1 2
  have f2 := blk_frozen hb1 2
  simp at e2
  have HQ := Hd.mk (hq.less (Z' := Z) (fun q hq => List.mem_cons_of_mem _ hq))
  clear hd hz hb1 hq HP
  refine startIn_ (by kernel_rfl) (by rintro ⟨_, _, h⟩; simp only [Exit.then, bodyPost] at h; exact takeOk_no h) (n := 14) (S := fun w' => w'.cell? ⟨Bm, 2, none⟩ = some x ∧ w'.cell? ⟨W.heap.size, 2, none⟩ = some (.int .u8 b)) (ds := [9, 13]) #[false, false, false, false, false, false, false, false, false, false, false, false, false, false] (by kernel_rfl) rfl rfl ⟨c2, z2⟩ (fun hHeld => ?_)
  refine pure_ (i := 0) (N := some 43) (v := ?_) (a' := ?_) #[true, false, false, false, false, false, false, false, false, false, false, false, false, false] rfl rfl (by kernel_rfl) (fun _ _ _ h => h) (Or.inl ⟨by rfl, ?_⟩) ?_ ?_
  rotate_left
  · intro w'
    go_simp
    with_reducible rfl
  rotate_left
  · simp only [Act.put, List.setIfInBounds_toArray, List.set_cons_zero, List.set_cons_succ, i64_w, i32_w]
    rfl
  refine pure_ (i := 1) (N := some 44) (v := ?_) (a' := ?_) #[true, true, false, false, false, false, false, false, false, false, false, false, false, false] rfl rfl (by kernel_rfl) (fun _ _ _ h => h) (Or.inl ⟨by rfl, ?_⟩) ?_ ?_
  rotate_left
  · intro w'
    go_simp
    with_reducible rfl
  rotate_left
  · simp only [Act.put, List.setIfInBounds_toArray, List.set_cons_zero, List.set_cons_succ, i64_w, i32_w]
    rfl
  refine pure_ (i := 2) (N := some 45) (v := ?_) (a' := ?_) #[true, true, true, false, false, false, false, false, false, false, false, false, false, false] rfl rfl (by kernel_rfl) (fun _ _ _ h => h) (Or.inl ⟨by rfl, ?_⟩) ?_ ?_
  rotate_left
  · intro w'
    go_simp
    with_reducible rfl
  rotate_left
  · simp only [Act.put, List.setIfInBounds_toArray, List.set_cons_zero, List.set_cons_succ, i64_w, i32_w]
    rfl
  refine pure_ (i := 3) (N := some 46) (v := ?_) (a' := ?_) #[true, true, true, true, false, false, false, false, false, false, false, false, false, false] rfl rfl (by kernel_rfl) (fun _ _ _ h => h) (Or.inl ⟨by rfl, ?_⟩) ?_ ?_
  rotate_left
  · intro w'
    go_simp
    with_reducible rfl
  rotate_left
  · simp only [Act.put, List.setIfInBounds_toArray, List.set_cons_zero, List.set_cons_succ, i64_w, i32_w]
    rfl
  refine pure_ (i := 4) (N := some 47) (v := ?_) (a' := ?_) #[true, true, true, true, true, false, false, false, false, false, false, false, false, false] rfl rfl (by kernel_rfl) (fun _ _ _ h => h) (Or.inl ⟨by rfl, ?_⟩) ?_ ?_
  rotate_left
  · intro w'
    go_simp
    with_reducible rfl
  rotate_left
  · simp only [Act.put, List.setIfInBounds_toArray, List.set_cons_zero, List.set_cons_succ, i64_w, i32_w]
    rfl
  refine pure_ (i := 6) (N := some 49) (v := ?_) (a' := ?_) #[true, true, true, true, true, false, true, false, false, false, false, false, false, false] rfl rfl (by kernel_rfl) (fun _ _ _ h => h) (Or.inl ⟨by rfl, ?_⟩) ?_ ?_
  rotate_left
  · intro w'
    go_simp
    with_reducible rfl
  rotate_left
  · simp only [Act.put, List.setIfInBounds_toArray, List.set_cons_zero, List.set_cons_succ, i64_w, i32_w]
    rfl
  refine take_ (i := 5) (N := some 48) (v := ?_) (a' := ?_) #[true, true, true, true, true, true, true, false, false, false, false, false, false, false] rfl rfl (by kernel_rfl) (fun _ _ _ h => h) (Or.inl ⟨by rfl, ?_⟩) hHeld ?_ ?_
  rotate_left
  · rintro w' ⟨s0, s1⟩
    go_simp
    with_reducible rfl
  rotate_left
  · simp only [Act.put, List.setIfInBounds_toArray, List.set_cons_zero, List.set_cons_succ, i64_w, i32_w]
    rfl
  refine take_ (i := 7) (N := some 50) (v := ?_) (a' := ?_) #[true, true, true, true, true, true, true, true, false, false, false, false, false, false] rfl rfl (by kernel_rfl) (fun _ _ _ h => h) (Or.inl ⟨by rfl, ?_⟩) hHeld ?_ ?_
  rotate_left
  · rintro w' ⟨s0, s1⟩
    go_simp
    with_reducible rfl
  rotate_left
  · simp only [Act.put, List.setIfInBounds_toArray, List.set_cons_zero, List.set_cons_succ, i64_w, i32_w]
    rfl
  refine one_ (i := 8) (N := some 51) #[true, true, true, true, true, true, true, true, true, false, false, false, false, false] rfl rfl (by kernel_rfl) (by decide) (fun K hK => ?_)
  refine value_ (w1 := ?_) (v := ?_) (by rfl) rfl ?_ ?_
  rotate_left 2
  · go_simp
    constructor
    · rfl
    · rfl
  refine hK.out _ _ ⟨pw_cell_below hba.out c2, pw_cell_below hba.out z2⟩ (fun hHeld => ?_)
  clear hK K
  refine norm_ (a' := ?_) ?_ ?_
  rotate_left
  · show Act.put _ (some 51) _ = _
    simp only [Act.put, List.setIfInBounds_toArray, List.set_cons_zero, List.set_cons_succ, i64_w, i32_w]
    rfl
  refine last_ (i := 9) (N := some 52) #[true, true, true, true, true, true, true, true, true, true, false, false, false, false] rfl rfl (by kernel_rfl) (by decide) (fun K hK => ?_)
  refine value_ (w1 := w1) (v := .slice A (xl.length + 1) cx) (by rfl) rfl ?_ ?_
  · (go_simp; first | done | (rw [hrun2]; rfl))
  refine hK.out _ _ ?_
  clear hK K
  refine norm_ (a' := ?_) ?_ ?_
  rotate_left
  · show Act.put _ (some 52) _ = _
    simp only [Act.put, List.setIfInBounds_toArray, List.set_cons_zero, List.set_cons_succ, i64_w, i32_w]
    rfl
  refine pure_ (i := 10) (N := some 53) (v := ?_) (a' := ?_) #[true, true, true, true, true, true, true, true, true, true, true, false, false, false] rfl rfl (by kernel_rfl) (fun _ _ _ h => h) (Or.inl ⟨by rfl, ?_⟩) ?_ ?_
  rotate_left
  · intro w'
    go_simp
    with_reducible rfl
  rotate_left
  · simp only [Act.put, List.setIfInBounds_toArray, List.set_cons_zero, List.set_cons_succ, i64_w, i32_w]
    rfl
  refine pure_ (i := 11) (N := some 54) (v := ?_) (a' := ?_) #[true, true, true, true, true, true, true, true, true, true, true, true, false, false] rfl rfl (by kernel_rfl) (fun _ _ _ h => h) (Or.inl ⟨by rfl, ?_⟩) ?_ ?_
  rotate_left
  · intro w'
    go_simp
    with_reducible rfl
  rotate_left
  · simp only [Act.put, List.setIfInBounds_toArray, List.set_cons_zero, List.set_cons_succ, i64_w, i32_w]
    rfl
  refine pure_ (i := 12) (N := some 55) (v := ?_) (a' := ?_) #[true, true, true, true, true, true, true, true, true, true, true, true, true, false] rfl rfl (by kernel_rfl) (fun _ _ _ h => h) (Or.inl ⟨by rfl, ?_⟩) ?_ ?_
  rotate_left
  · intro w'
    go_simp
    with_reducible rfl
  rotate_left
  · simp only [Act.put, List.setIfInBounds_toArray, List.set_cons_zero, List.set_cons_succ, i64_w, i32_w]
    rfl
  refine last_ (i := 13) (N := none) #[true, true, true, true, true, true, true, true, true, true, true, true, true, true] rfl rfl (by kernel_rfl) (by decide) (fun K hK => ?_)
  refine skip_ (w1 := ?_) (by rfl) rfl ?_ ?_
  rotate_left
  · go_simp
    rfl
  refine hK.out _ _ ?_
  clear hK K
  refine done_ (by kernel_rfl) ?_
  gi_wp2
  go_end0
  exact ⟨rfl, _, _, _, by simpa [TS.st, setf] using HQ.out⟩
end Go.Proofs.Ytemlbjpefomboaa
