/- edit: the document's first example; is the program awake? ; edit: the walk of EditNames. -/
import Derived.Test.YtemlbjpefomboaaAc
namespace Go.Proofs.Ytemlbjpefomboaa
open Go.RowKit Go.Shelf Go.Proofs.YtemlbjpefomboaaW.PrintWords Go.Proofs.YtemlbjpefomboaaW.PrintLast Go.Proofs.YtemlbjpefomboaaW.PrintMore Go.Proofs.Ytemlbjpefomboaa.Pr
set_option linter.unusedVariables false
set_option linter.unusedSimpArgs false
theorem conv_lit (w : World) (cs : Array Value) (n c : Nat) : (convert 25 25 (.slice (some ⟨w.heap.size, 0, none⟩) n c)).run Try.prog (w.alloc (.cells cs 5)) = .ok (.slice (some ⟨w.heap.size, 0, none⟩) n c) (w.alloc (.cells cs 5 (cs.size, cs.size + 1))) := by
  have hsh : (w.alloc (.cells cs 5)).shape? w.heap.size = some (5, cs.size) := by
    unfold World.shape?
    rw [blk_new w _]
  have hfr : (w.alloc (.cells cs 5)).freeze ⟨w.heap.size, cs.size, none⟩ 1 = w.alloc (.cells cs 5 (cs.size, cs.size + 1)) := by
    have hm : ∀ (a : Array Obj) (x : Obj) (f : Obj → Obj), (a.push x).modify a.size f = a.push (f x) := by
      intro a x f
      apply Array.ext
      · simp
      · intro i h1 h2
        simp only [Array.getElem_modify, Array.getElem_push]
        by_cases h : a.size = i
        · subst h
          simp
        · have hi : i < a.size := by simp at h1; omega
          simp [h, hi]
    unfold World.freeze
    rw [if_neg (by decide)]
    show ({ w.alloc (.cells cs 5) with heap := (w.heap.push (.cells cs 5)).modify w.heap.size _ } : World) = _
    rw [hm]
    rfl
  simp [convert, run_underlying Try.underlying25, run_underlying Try.underlying5, markStringish, hsh]
  rw [hfr]
theorem conv_lit' (w : World) (cs : Array Value) (n c g : Nat) (hg : g = w.heap.size) : (convert 25 25 (.slice (some ⟨g, 0, none⟩) n c)).run Try.prog (w.alloc (.cells cs 5)) = .ok (.slice (some ⟨g, 0, none⟩) n c) (w.alloc (.cells cs 5 (cs.size, cs.size + 1))) := by
  subst hg
  exact conv_lit w cs n c
theorem cell_blk {w : World} {g : Nat} {t : TypeId} {cs : Array Value} {fr : Nat × Nat} (h : w.heap[g]? = some (.cells cs t fr)) (i : Nat) : w.cell? ⟨g, i, none⟩ = cs[i]? := cell_of_row w g i cs t fr h
theorem C_lit {w : World} {g : Nat} {t : TypeId} {fr : Nat × Nat} {k : IntKind} {l : List Int} (h : w.heap[g]? = some (.cells (nums k l).toArray t fr)) (hl : l.length ≤ 9223372036854775807) : Kd.C (Kd.int k) w (some ⟨g, 0, none⟩) l.length l :=
  Kd.C_of_reads (enc := Value.int k) (d := (0 : Int)) (h1 := fun _ => rfl) ⟨rfl, hl, fun _ => ⟨_, rfl, fun j hj => by rw [add_plain, cell_blk h]; simp [nums, hj]⟩⟩
def cells80 (l : List S80) : List Value := l.flatMap fun s => [.int .i64 s.f0, .int .i64 s.f1, .int .i64 s.f2]
theorem cells80_len (l : List S80) : (cells80 l).length = l.length * 3 := by
  induction l with
  | nil => rfl
  | cons s l ih => simp [cells80] at ih ⊢; omega
theorem cells80_at : ∀ (l : List S80) (j : Nat) (p : S80), l[j]? = some p → ∀ i u, [Value.int .i64 p.f0, .int .i64 p.f1, .int .i64 p.f2][i]? = some u → (cells80 l)[j * 3 + i]? = some u
  | [], j, p, h => by simp at h
  | s :: l, 0, p, h => by
    simp at h
    subst h
    intro i u hu
    have hi : i < 3 := by have := (List.getElem?_eq_some_iff.1 hu).1; simpa using this
    show (([Value.int .i64 s.f0, .int .i64 s.f1, .int .i64 s.f2] : List Value) ++ cells80 l)[0 * 3 + i]? = some u
    rw [List.getElem?_append_left (by simp; omega)]
    simpa using hu
  | s :: l, j + 1, p, h => by
    intro i u hu
    have := cells80_at l j p (by simpa using h) i u hu
    show (([Value.int .i64 s.f0, .int .i64 s.f1, .int .i64 s.f2] : List Value) ++ cells80 l)[(j + 1) * 3 + i]? = some u
    rw [List.getElem?_append_right (by simp; omega)]
    rw [← this]
    congr 1
    simp
    omega
theorem C80_lit {w : World} {g : Nat} {t : TypeId} {fr : Nat × Nat} {l : List S80} (h : w.heap[g]? = some (.cells (cells80 l).toArray t fr)) (hl : l.length ≤ 9223372036854775807) : Kd.C k80 w (some ⟨g, 0, none⟩) l.length l := by
  refine ⟨rfl, hl, fun _ => ⟨_, rfl, fun j p hj => ⟨[.int .i64 p.f0, .int .i64 p.f1, .int .i64 p.f2], rfl, k80_mk w p, fun i u hu => ?_⟩⟩⟩
  rw [add_plain, cell_blk h]
  have := cells80_at l j p hj i u hu
  simpa [k80, Kd.iso, Kd.pair, Kd.int, Kd.scalar] using this
theorem four_new (w : World) (o0 o1 o2 o3 : Obj) : ((((w.alloc o0).alloc o1).alloc o2).alloc o3).heap[w.heap.size]? = some o0 ∧ ((((w.alloc o0).alloc o1).alloc o2).alloc o3).heap[w.heap.size + 1]? = some o1 ∧
    ((((w.alloc o0).alloc o1).alloc o2).alloc o3).heap[w.heap.size + 1 + 1]? = some o2 ∧ ((((w.alloc o0).alloc o1).alloc o2).alloc o3).heap[w.heap.size + 1 + 1 + 1]? = some o3 ∧ Below w.heap.size w ((((w.alloc o0).alloc o1).alloc o2).alloc o3) := by
  have h1 := blk_new (w.alloc o0) o1
  have h2 := blk_new ((w.alloc o0).alloc o1) o2
  have h3 := blk_new (((w.alloc o0).alloc o1).alloc o2) o3
  simp only [World.size_alloc] at h1 h2 h3
  exact ⟨blk_alloc (blk_alloc (blk_alloc (blk_new w o0) o1) o2) o3, blk_alloc (blk_alloc h1 o2) o3, blk_alloc h2 o3, h3, ((((Below.refl _ _).alloc (Nat.le_refl _) _).alloc (by simp) _).alloc (by simp; omega) _).alloc (by simp; omega) _⟩
def st1 : List S80 := [⟨3, 2, 1⟩, ⟨2, 0, 0⟩]
def d1 : List Int := [0, 0, 1, 0, 0]
def x1 : List Int := [120, 121]
set_option maxRecDepth 100000 in
set_option maxHeartbeats 2000000 in
theorem first_c (w : World) : Calls Try.prog 49 #[] w fun e w' => ∃ A0 A1 A2, e = .returned (EdV A0 st1.length 2 A1 d1.length 5 A2 x1.length 2) ∧ EdC w' A0 2 st1 A1 5 d1 A2 2 x1 ∧ Below w.heap.size w w' := by
  go_enter Try.func49, Try.ntmps49
  go_wp2
  rw [conv_lit' _ _ _ _ _ (by simp)]
  go_wp2
  obtain ⟨h0, h1, h2, h3, hb⟩ := four_new w (.cells #[.slice (some ⟨w.heap.size + 1, 0, none⟩) 2 2, .slice (some ⟨w.heap.size + 1 + 1, 0, none⟩) 5 5, .slice (some ⟨w.heap.size + 1 + 1 + 1, 0, none⟩) 2 2] 28)
    (.cells #[.int .i64 3, .int .i64 2, .int .i64 1, .int .i64 2, .int .i64 0, .int .i64 0] 80) (.cells #[.int .u8 0, .int .u8 0, .int .u8 1, .int .u8 0, .int .u8 0] 5) (.cells #[.int .u8 120, .int .u8 121] 5 (2, 3))
  refine bodyPost_ret (results_cell_row rfl _ _ w.heap.size 28 _ (0, 0) _ rfl h0 Try.underlying28 rfl (by kernel_rfl)) rfl ?_
  exact ⟨_, _, _, rfl, ⟨C80_lit (l := st1) h1 (by decide), C_lit (l := d1) h2 (by decide), C_lit (l := x1) h3 (by decide), by decide, by decide, by decide⟩, hb⟩
def o1 : List Int := [97, 98, 99, 100, 101, 102]
def b1 : List Int := [97, 98, 100, 120, 121, 101, 102]
theorem first_e : appliedE o1 st1 d1 x1 = 0 := by decide +kernel
theorem first_b : applied o1 st1 d1 x1 = b1 := by decide +kernel
theorem first_in : Inn o1.length (og st1 d1 x1 0) := by
  unfold Inn
  decide +kernel
set_option maxRecDepth 100000 in
set_option maxHeartbeats 2000000 in
theorem awake_c (w : World) : Calls Try.prog 22 #[] w fun e w' => e = .returned (.bool true) ∧ Below w.heap.size w w' := by
  have HO0 := Hd.mk (C_lit (l := o1) (k := .u8) (blk_new w (.cells (nums .u8 o1).toArray 5 (6, 7))) (by decide))
  have HB0 := Hd.mk ((Below.refl w.heap.size w).alloc (Nat.le_refl _) (.cells (nums .u8 o1).toArray 5 (6, 7)))
  go_enter Try.func22, Try.ntmps22
  go_wp2_with fail
  rw [conv_lit' _ _ _ _ _ (by simp)]
  go_wp2_with fail
  refine (first_c _).mono ?_
  rintro e w1 ⟨A0, A1, A2, rfl, hE, hb⟩
  have HO1 := Hd.mk (Kd.C_below HO0.out hb)
  have HB1 := Hd.mk (below_step HB0.out hb)
  have HE1 := Hd.mk hE
  clear hb hE HO0 HB0
  unfold EdV
  go_wp2_with fail
  refine (apply_c (some ⟨w.heap.size, 0, none⟩) 6 o1 A0 2 st1 A1 5 d1 A2 2 x1 w1 HO1.out (by decide) HE1.out (fun _ => first_in)).mono ?_
  rintro e w2 ⟨v, rfl, hr, hb⟩
  rw [first_b] at hr
  rw [first_e]
  have hs := own_string (P := Try.prog) Try.underlying25 Try.underlying5 Try.underlying9 hr
  have HB2 := Hd.mk (below_step HB1.out hb)
  have hv : strOfNums b1 = (⟨#[97, 98, 100, 120, 121, 101, 102]⟩ : ByteArray) := by decide
  rw [hv] at hs
  clear hr hb
  go_wp2
  go_ret
  exact ⟨rfl, HB2.out⟩
end Go.Proofs.Ytemlbjpefomboaa
namespace Go.Proofs.Ytemlbjpefomboaa
open Go.RowKit Go.Shelf Go.Proofs.YtemlbjpefomboaaW.PrintWords Go.Proofs.YtemlbjpefomboaaW.PrintLast Go.Proofs.YtemlbjpefomboaaW.PrintMore Go.Proofs.Ytemlbjpefomboaa.Pr
set_option linter.unusedVariables false
set_option linter.unusedSimpArgs false
theorem num_c (n : Int) (w : World) : Calls Try.prog 21 #[.int .i64 n] w fun e w' => e = .returned (.int .i64 n) ∧ w' = w := by
  go_enter Try.func21, Try.ntmps21
  go_wp2
  go_ret
  exact ⟨rfl, rfl⟩
set_option maxHeartbeats 2000000 in
theorem walk_editNames (w : World) : Calls Try.prog 3 #[] w fun e w' => e = .returned (.bool true) ∧ Below w.heap.size w w' := by
  go_enter Try.func3, Try.ntmps3
  go_wp2_with (first
    | (go_at_call 21; refine (num_c _ _).mono ?_; rintro e w1 ⟨rfl, rfl⟩)
    | (go_at_call 22; refine (awake_c _).mono ?_; rintro e w1 ⟨rfl, hb⟩; have HB := Hd.mk hb; clear hb))
  go_ret
  exact ⟨rfl, HB.out⟩
end Go.Proofs.Ytemlbjpefomboaa
