/- vcd: a cache learns an address. -/
import Derived.Test.YtmfnjmecnhagmaaKa
namespace Go.Proofs.Ytmfnjmecnhagmaa
open Go.RowKit Go.ChangeShapes Go.WideShapes Go.Shelf Go.Maps Go.Proofs.YtmfnjmecnhagmaaW.PrintWords Go.Proofs.YtmfnjmecnhagmaaW.PrintLast Go.Proofs.YtmfnjmecnhagmaaW.PrintMore Go.Proofs.Ytmfnjmecnhagmaa.Pr
set_option linter.unusedVariables false
set_option linter.unusedSimpArgs false
theorem Kc.know_ok {W : World} {g : Nat} {k : Kc} (h : KB W g k) (addr : Nat) :
    KB (((W.setCell ⟨g, 1 + k.next, none⟩ (.int .i64 addr)).setCell ⟨g, 5, none⟩ (.int .i64 (((k.next + 1) % 4 : Nat) : Int))).setCell ⟨g, 6 + addr % 768, none⟩ (.int .i64 addr)) g (k.know addr) := by
  obtain ⟨near, next, same⟩ := k
  have h1 := h.set (1 + next) (.int .i64 addr) _ (set_near ⟨near, next, same⟩ h.ln next h.lx addr) (by rw [List.length_set]; exact h.ln) h.lx h.ls
  have h2 := h1.set 5 _ _ (set_next ⟨near.set next addr, next, same⟩ h1.ln ((next + 1) % 4)) h1.ln (Nat.mod_lt _ (by omega)) h1.ls
  exact h2.set (6 + addr % 768) _ _ (set_same ⟨near.set next addr, (next + 1) % 4, same⟩ h2.ln (addr % 768) addr) h2.ln h2.lx (by show (same.set (addr % 768) (addr : Int)).length = 768; rw [List.length_set]; exact h.ls)
set_option maxRecDepth 100000 in
set_option maxHeartbeats 8000000 in
theorem know_c {W : World} {g : Nat} {k : Kc} (h : KB W g k) (addr : Nat) (ha : addr ≤ 4611686018427387904) : Calls Try.prog 50 #[.pointer (some ⟨g, 0, none⟩), .int .i64 addr] W fun e w' => e = .returned (.tuple #[]) ∧ KB w' g (k.know addr) ∧ On g W w' := by
  have HE : Hd (KB ((((W.drew).setCell ⟨g, 1 + k.next, none⟩ (.int .i64 addr)).setCell ⟨g, 5, none⟩ (.int .i64 (((k.next + 1) % 4 : Nat) : Int))).setCell ⟨g, 6 + addr % 768, none⟩ (.int .i64 addr)) g (k.know addr)) := ⟨Kc.know_ok (h.below (Below.drew' W)) addr⟩
  have HB : Hd (On g W ((((W.drew).setCell ⟨g, 1 + k.next, none⟩ (.int .i64 addr)).setCell ⟨g, 5, none⟩ (.int .i64 (((k.next + 1) % 4 : Nat) : Int))).setCell ⟨g, 6 + addr % 768, none⟩ (.int .i64 addr))) := ⟨(((On.drew g W).setCell _ _).setCell _ _).setCell _ _⟩
  have hd := h.below (Below.drew' W)
  obtain ⟨nx, hnx⟩ : ∃ n, k.next = n := ⟨_, rfl⟩
  have hx := h.lx
  obtain ⟨n5, f5⟩ := hd.cell 5 _ (cells_next k h.ln)
  obtain ⟨nn, fn⟩ := hd.cell (1 + k.next) _ (cells_near k h.ln k.next h.lx)
  have h1 := (hd.set (1 + k.next) (.int .i64 addr) _ (set_near k h.ln k.next h.lx addr) (by rw [List.length_set]; exact h.ln) h.lx h.ls)
  obtain ⟨m5, mf5⟩ := h1.cell 5 _ (cells_next _ h1.ln)
  have h2 := h1.set 5 (.int .i64 (((k.next + 1) % 4 : Nat) : Int)) _ (set_next _ h1.ln ((k.next + 1) % 4)) h1.ln (Nat.mod_lt _ (by omega)) h1.ls
  obtain ⟨s6, sf6⟩ := h2.cell (6 + addr % 768) _ (cells_same _ h2.ln h2.ls (addr % 768) (Nat.mod_lt _ (by omega)))
  simp only at m5
  rw [hnx] at HE HB n5 nn fn m5 mf5 s6 sf6 hx
  clear h h1 h2 hd hnx
  have hx0 : decide ((0 : Int) ≤ (nx : Int)) = true := decide_eq_true (by omega)
  have hx4 : decide ((nx : Int) < 4) = true := decide_eq_true (by omega)
  have hnx4 : (nx : Int) < 4 := by omega
  simp only [iV] at nn s6
  obtain ⟨av, hav⟩ : ∃ av, av = addr % 768 := ⟨_, rfl⟩
  rw [← hav] at HE HB s6 sf6
  obtain ⟨W1, hW1⟩ : ∃ v, W.drew.setCell ⟨g, 1 + nx, none⟩ (.int .i64 addr) = v := ⟨_, rfl⟩
  rw [hW1] at HE HB m5 mf5 s6 sf6
  have HW1 : Hd ((W.setCell ⟨g, 1 + nx, none⟩ (.int .i64 addr)).drew = W1) := ⟨hW1⟩
  have hmod : (((nx + 1) % 4 : Nat) : Int) = ((nx : Int) + 1) % 4 := by omega
  have hmod2 : (addr : Int) % 768 = (av : Int) := by omega
  have hav2 : (av : Int) < 768 := by omega
  rw [hmod] at HE HB s6 sf6
  clear hW1 hmod hav
  go_enter Try.func50, Try.ntmps50
  go_upto_region 0 with fail
  refine start_ (n := 10) (S := fun w' => w'.cell? ⟨g, 5, none⟩ = some (.int .i64 (nx : Int)) ∧ w'.cell? ⟨g, 1 + nx, none⟩ = some (.int .i64 (k.near.getD nx 0))) (ds := [9]) #[false, false, false, false, false, false, false, false, false, false] (by kernel_rfl) rfl rfl ⟨n5, nn⟩ (fun hHeld => ?_)
  refine pure_ (i := 0) (N := some 4) (v := ?_) (a' := ?_) #[true, false, false, false, false, false, false, false, false, false] rfl rfl (by kernel_rfl) (fun _ _ _ h => h) (Or.inl ⟨by rfl, ?_⟩) ?_ ?_
  rotate_left
  · intro w'
    go_simp
    with_reducible rfl
  rotate_left
  · simp only [Act.put, List.setIfInBounds_toArray, List.set_cons_zero, List.set_cons_succ, i64_w, i32_w]
    rfl
  refine pure_ (i := 1) (N := some 5) (v := ?_) (a' := ?_) #[true, true, false, false, false, false, false, false, false, false] rfl rfl (by kernel_rfl) (fun _ _ _ h => h) (Or.inl ⟨by rfl, ?_⟩) ?_ ?_
  rotate_left
  · intro w'
    go_simp
    with_reducible rfl
  rotate_left
  · simp only [Act.put, List.setIfInBounds_toArray, List.set_cons_zero, List.set_cons_succ, i64_w, i32_w]
    rfl
  refine pure_ (i := 2) (N := some 6) (v := ?_) (a' := ?_) #[true, true, true, false, false, false, false, false, false, false] rfl rfl (by kernel_rfl) (fun _ _ _ h => h) (Or.inl ⟨by rfl, ?_⟩) ?_ ?_
  rotate_left
  · intro w'
    go_simp
    with_reducible rfl
  rotate_left
  · simp only [Act.put, List.setIfInBounds_toArray, List.set_cons_zero, List.set_cons_succ, i64_w, i32_w]
    rfl
  refine pure_ (i := 3) (N := some 7) (v := ?_) (a' := ?_) #[true, true, true, true, false, false, false, false, false, false] rfl rfl (by kernel_rfl) (fun _ _ _ h => h) (Or.inl ⟨by rfl, ?_⟩) ?_ ?_
  rotate_left
  · intro w'
    go_simp
    with_reducible rfl
  rotate_left
  · simp only [Act.put, List.setIfInBounds_toArray, List.set_cons_zero, List.set_cons_succ, i64_w, i32_w]
    rfl
  refine pure_ (i := 5) (N := some 9) (v := ?_) (a' := ?_) #[true, true, true, true, false, true, false, false, false, false] rfl rfl (by kernel_rfl) (fun _ _ _ h => h) (Or.inl ⟨by rfl, ?_⟩) ?_ ?_
  rotate_left
  · intro w'
    go_simp
    with_reducible rfl
  rotate_left
  · simp only [Act.put, List.setIfInBounds_toArray, List.set_cons_zero, List.set_cons_succ, i64_w, i32_w]
    rfl
  refine pure_ (i := 6) (N := some 10) (v := ?_) (a' := ?_) #[true, true, true, true, false, true, true, false, false, false] rfl rfl (by kernel_rfl) (fun _ _ _ h => h) (Or.inl ⟨by rfl, ?_⟩) ?_ ?_
  rotate_left
  · intro w'
    go_simp
    with_reducible rfl
  rotate_left
  · simp only [Act.put, List.setIfInBounds_toArray, List.set_cons_zero, List.set_cons_succ, i64_w, i32_w]
    rfl
  refine pure_ (i := 7) (N := some 11) (v := ?_) (a' := ?_) #[true, true, true, true, false, true, true, true, false, false] rfl rfl (by kernel_rfl) (fun _ _ _ h => h) (Or.inl ⟨by rfl, ?_⟩) ?_ ?_
  rotate_left
  · intro w'
    go_simp
    with_reducible rfl
  rotate_left
  · simp only [Act.put, List.setIfInBounds_toArray, List.set_cons_zero, List.set_cons_succ, i64_w, i32_w]
    rfl
  refine take_ (i := 4) (N := some 8) (v := ?_) (a' := ?_) #[true, true, true, true, true, true, true, true, false, false] rfl rfl (by kernel_rfl) (fun _ _ _ h => h) (Or.inl ⟨by rfl, ?_⟩) hHeld ?_ ?_
  rotate_left
  · rintro w' ⟨s0, s1⟩
    go_simp
    with_reducible rfl
  rotate_left
  · simp only [Act.put, List.setIfInBounds_toArray, List.set_cons_zero, List.set_cons_succ, i64_w, i32_w]
    rfl
  refine pure_ (i := 8) (N := some 12) (v := ?_) (a' := ?_) #[true, true, true, true, true, true, true, true, true, false] rfl rfl (by kernel_rfl) (fun _ _ _ h => h) (Or.inl ⟨by rfl, ?_⟩) ?_ ?_
  rotate_left
  · intro w'
    go_simp
    with_reducible rfl
  rotate_left
  · simp only [Act.put, List.setIfInBounds_toArray, List.set_cons_zero, List.set_cons_succ, i64_w, i32_w]
    rfl
  refine last_ (i := 9) (N := none) #[true, true, true, true, true, true, true, true, true, true] rfl rfl (by kernel_rfl) (by decide) (fun K hK => ?_)
  refine skip_ (w1 := ?_) (by rfl) rfl ?_ ?_
  rotate_left
  · go_simp
    rfl
  refine hK.out _ _ ?_
  clear hK K
  refine done_ (by kernel_rfl) ?_
  rw [HW1.out]
  clear hHeld n5 f5 nn fn HW1
  go_wp2
  go_end0
  exact ⟨rfl, HE.out, HB.out⟩
end Go.Proofs.Ytmfnjmecnhagmaa
