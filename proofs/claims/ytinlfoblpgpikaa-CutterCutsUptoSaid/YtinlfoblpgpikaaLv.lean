/- cutter: lives: the document's first example is as it says. -/
import Derived.Test.YtinlfoblpgpikaaCv
namespace Go.Proofs.Ytinlfoblpgpikaa
open Go.RowKit Go.Shelf Go.Proofs.YtinlfoblpgpikaaW.PrintWords Go.Proofs.YtinlfoblpgpikaaW.PrintLast Go.Proofs.YtinlfoblpgpikaaW.PrintMore Go.Proofs.Ytinlfoblpgpikaa.Pr
set_option linter.unusedVariables false
set_option linter.unusedSimpArgs false
theorem eqA82 (d : Nat) (w : World) (x0 y0 : Int) (x1 y1 : Int) (x2 y2 : Int) :
    (Op.equalIn (d + 2) 82 (.agg #[.int .i64 x0, .int .i64 x1, .int .i64 x2]) (.agg #[.int .i64 y0, .int .i64 y1, .int .i64 y2])).run Try.prog w = .ok (x0 == y0 && (x1 == y1 && (x2 == y2))) w := by
  refine eqA_of Try.underlying82 (by kernel_rfl) ?_
  refine eqf_cons (by rfl) (by go_simp; rfl) (by go_simp; rfl) (by go_simp) ?_
  refine eqf_cons (by rfl) (by go_simp; rfl) (by go_simp; rfl) (by go_simp) ?_
  exact eqf_last (by rfl) (by go_simp; rfl) (by go_simp; rfl) (by go_simp)
attribute [local go_sem high] eqA82
set_option maxRecDepth 100000 in
set_option maxHeartbeats 8000000 in
theorem lives_c (w : World) : Calls Try.prog 11 #[] w fun e w' => e = .returned (.bool true) ∧ Below w.heap.size w w' := by
  obtain ⟨i0, hi, hz0, hz1, hz2⟩ := info_parts eltB.hi
  obtain ⟨w1, hw1⟩ : ∃ v, w.alloc (.cells #[.int .i64 70, .int .i64 0, .int .i64 0] 82) = v := ⟨_, rfl⟩
  have hb1 : Below w.heap.size w w1 := by rw [← hw1]; exact (Below.refl _ _).alloc (Nat.le_refl _) _
  obtain ⟨w2, hmk, hr2, hg2⟩ := run_make_full (P := Try.prog) w1 w.heap.size 24 5 i0 (.int .u8 0) 1 eltB.ht hi hz0 hz1 .i64 .i64 70 (by rw [hz2]; omega) (by simp only [maxLen]; omega) hb1.size
  have hb2 : Below w1.heap.size w1 w2 := (Below.refl _ _).grown hg2 (Nat.le_refl _) (fun k e => by cases e)
  have hbe := below_step hb1 hb2
  have hS : Kd.C k82 w2 (some ⟨w.heap.size, 0, none⟩) ([⟨70, 0, 0⟩] : List S82).length [⟨70, 0, 0⟩] := Kd.C_below (C82_lit (l := [⟨70, 0, 0⟩]) (by rw [← hw1]; exact blk_new w _) (by decide)) hb2
  have hcs : (madeCells (Value.int .u8 0).cells (70 * 1)).toList = nums .u8 (List.replicate 70 0) := (toList_madeCells_one _ 70).trans (by simp [nums])
  rw [hcs] at hr2
  have hD := own_C8 hr2
  have hX : Kd.C (Kd.int .u8) w2 none ([] : List Int).length [] := ⟨rfl, by simp, fun h => by simp at h⟩
  have hE : EdC w2 (some ⟨w.heap.size, 0, none⟩) 1 [⟨70, 0, 0⟩] (some ⟨w1.heap.size, 0, none⟩) 70 (List.replicate 70 0) none 0 [] := ⟨hS, hD, hX, by simp, by simp, by simp⟩
  have hc70 := cut70 hE rfl rfl rfl
  simp only [List.length_cons, List.length_nil, List.length_replicate, Nat.zero_add] at hc70
  have HC := Hd.mk hc70
  have hmk2 : (Instr.makeSlice 24 (.int .i64 70) (.int .i64 70)).run Try.prog w1 = .ok (.slice (some ⟨w1.heap.size, 0, none⟩) 70 70) w2 := hmk
  have HB := Hd.mk hbe
  clear hi hz0 hz1 hz2 hr2 hg2 hb2 hbe hS hcs hD hX hE hb1 hc70 hmk
  go_enter Try.func11, Try.ntmps11
  go_wp2_with fail
  refine HC.out.mono ?_
  rintro e w3 ⟨A, c, cs, A3, c3, A4, c4, A5, c5, sl, dl, rfl, hsl, hdl, hrow, hcl, hc0, hst, hb3⟩
  subst hsl
  rw [hdl] at hrow
  obtain ⟨g, cp, he, _⟩ := World.ownsRow.form hrow (by decide)
  cases he
  simp only [List.length_cons, List.length_nil, Nat.zero_add] at hrow hst
  obtain ⟨g3, cp3, he3, _⟩ := World.ownsRow.form hst (by decide)
  cases he3
  have q0 : w3.cell? ⟨g, 0, none⟩ = some (.int .i64 0) := by rw [World.ownsRow.cellAt hrow 0 (by omega), List.getElem?_append_left (by omega)]; exact hc0
  have q4 : w3.cell? ⟨g, 4, none⟩ = some (.int .i64 64) := by rw [World.ownsRow.cellAt hrow 4 (by omega), List.getElem?_append_right (by omega), hcl]; rfl
  have q5 : w3.cell? ⟨g, 5, none⟩ = some (.slice (some ⟨g3, 0, none⟩) 1 c3) := by rw [World.ownsRow.cellAt hrow 5 (by omega), List.getElem?_append_right (by omega), hcl]; rfl
  have q6 : w3.cell? ⟨g, 6, none⟩ = some (.slice A4 6 c4) := by rw [World.ownsRow.cellAt hrow 6 (by omega), List.getElem?_append_right (by omega), hcl]; rfl
  have p0 : w3.cell? ⟨g3, 0, none⟩ = some (.int .i64 6) := by rw [World.ownsRow.cellAt hst 0 (by omega)]; rfl
  have p1 : w3.cell? ⟨g3, 1, none⟩ = some (.int .i64 0) := by rw [World.ownsRow.cellAt hst 1 (by omega)]; rfl
  have p2 : w3.cell? ⟨g3, 2, none⟩ = some (.int .i64 0) := by rw [World.ownsRow.cellAt hst 2 (by omega)]; rfl
  have H3 := Hd.mk (below_step HB.out hb3)
  clear HC hrow hst hb3 hcl hc0 hdl HB
  go_wp2
  go_ret
  exact ⟨by simp, H3.out⟩
end Go.Proofs.Ytinlfoblpgpikaa
