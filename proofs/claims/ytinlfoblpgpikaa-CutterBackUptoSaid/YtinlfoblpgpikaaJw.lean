/- cutter: Join, by contract. -/
import Derived.Test.YtinlfoblpgpikaaZ4
namespace Go.Proofs.Ytinlfoblpgpikaa
open Go.RowKit Go.Shelf Go.Proofs.YtinlfoblpgpikaaW.PrintWords Go.Proofs.YtinlfoblpgpikaaW.PrintLast Go.Proofs.YtinlfoblpgpikaaW.PrintMore Go.Proofs.Ytinlfoblpgpikaa.Pr
set_option linter.unusedVariables false
set_option linter.unusedSimpArgs false
def movS : List S82 → Int → Int
  | [], p => p
  | s :: l, p => movS l (p + (s.f0 + s.f2))
def jnS (y : S43) (at_ : Int) (sl : List S82) : List S82 := (if y.f0 = at_ then sl else sl ++ [⟨0, 0, y.f0 - at_⟩]) ++ y.f1.f0
def szW (y : S43) : Int := (y.f1.f1.length : Int) + (y.f1.f2.length : Int)
def jn (win : Int) : List S43 → Int → List S82 → List Int → List Int → (List S82 × List Int × List Int) × Int
  | [], _, sl, dl, xl => ((sl, dl, xl), 0)
  | y :: l, at_, sl, dl, xl =>
    if (l ≠ [] ∧ szW y ≠ win) ∨ win < szW y ∨ pchk y.f0 y.f1.f0 y.f1.f1 y.f1.f2 16777216 (szW y) ≠ 0 then (([], [], []), 171)
    else jn win l (movS y.f1.f0 y.f0) (jnS y at_ sl) (dl ++ y.f1.f1) (xl ++ y.f1.f2)
/-- What Join answers. -/
def joinR (win : Int) (X : List S43) : (List S82 × List Int × List Int) × Int := if win < 64 ∨ 65536 < win then (([], [], []), 170) else jn win X 0 [] [] []
def totS : List S43 → Nat
  | [] => 0
  | y :: l => y.f1.f0.length + 1 + totS l
def totD : List S43 → Nat
  | [] => 0
  | y :: l => y.f1.f1.length + totD l
def totX : List S43 → Nat
  | [] => 0
  | y :: l => y.f1.f2.length + totX l
theorem drop_rd43 (X : List S43) (i : Nat) (h : i < X.length) : X.drop i = rd_T43 X (i : Int) :: X.drop (i + 1) := by
  rw [List.drop_eq_getElem_cons h]
  simp [rd_T43, List.getD_eq_getElem?_getD, List.getElem?_eq_getElem h]
theorem store3 {W : World} {g : Nat} {v0 v1 v2 u0 u1 u2 : Value} {t : TypeId} (h : W.heap[g]? = some (.cells #[v0, v1, v2] t (0, 0))) :
    (((W.setCell ⟨g, 0, none⟩ u0).setCell ⟨g, 1, none⟩ u1).setCell ⟨g, 2, none⟩ u2).heap[g]? = some (.cells #[u0, u1, u2] t (0, 0)) := by
  have := blk_set (blk_set (blk_set h 0 u0) 1 u1) 2 u2
  simpa using this
theorem own_store3 {W : World} {g b e sz n : Nat} {v0 v1 v2 u0 u1 u2 v : Value} {cs : List Value} {t : TypeId} (h : W.heap[g]? = some (.cells #[v0, v1, v2] t (0, 0))) (ho : W.ownsRow b e sz v n cs) (hne : e ≠ t) :
    (((W.setCell ⟨g, 0, none⟩ u0).setCell ⟨g, 1, none⟩ u1).setCell ⟨g, 2, none⟩ u2).ownsRow b e sz v n cs := by
  have hq := own_ne ho h hne
  exact own_setCell (own_setCell (own_setCell ho (p := ⟨g, 0, none⟩) hq u0) (p := ⟨g, 1, none⟩) hq u1) (p := ⟨g, 2, none⟩) hq u2
attribute [-go_sem] Builtin.append_
set_option maxRecDepth 100000 in
set_option maxHeartbeats 32000000 in
theorem join_c {A : Option Addr} {n c : Nat} {X : List S43} {w : World} (win : Int) (hX : Kd.C k43 w A n X) (hc : n ≤ c) (hS : totS X ≤ 5000000000000) (hD : totD X ≤ 100000000000000) (hX2 : totX X ≤ 100000000000000) :
    Calls Try.prog 28 #[.int .i64 win, .slice A n c] w fun e w' => ∃ s d x, e = .returned (.tuple #[.agg #[s, d, x], .int .i64 (joinR win X).2]) ∧ OS 82 w' w.heap.size s (joinR win X).1.1 ∧ OB w' w.heap.size d (joinR win X).1.2.1 ∧ OB w' w.heap.size x (joinR win X).1.2.2 ∧ Dj d x ∧ Below w.heap.size w w' := by
  have hnm := hX.2.1
  have hXl : X.length = n := hX.1
  have HX := Hd.mk hX
  have HXL := Hd.mk hXl
  have HT := Hd.mk (And.intro hS (And.intro hD hX2))
  clear hX hXl hS hD hX2
  by_cases hwin : 64 ≤ win ∧ win ≤ 65536
  rotate_left
  · have HJR : Hd (joinR win X = (([], [], []), 170)) := ⟨if_pos (by omega)⟩
    have hz := blk_new w (.cells #[.slice none 0 0, .slice none 0 0, .slice none 0 0] 29)
    have hb : Below w.heap.size w (w.alloc (.cells #[.slice none 0 0, .slice none 0 0, .slice none 0 0] 29)) := (Below.refl _ _).alloc (Nat.le_refl _) _
    have HZ := Hd.mk hz
    have HB := Hd.mk hb
    clear hz hb
    by_cases h64 : win < 64
    · have hd := decide_eq_true h64
      go_enter Try.func28, Try.ntmps28
      go_wp2
      refine bodyPost_ret (results_ct rfl _ _ w.heap.size 29 _ (0, 0) _ rfl HZ.out Try.underlying29 rfl (by kernel_rfl)) rfl ?_
      exact ⟨.slice none 0 0, .slice none 0 0, .slice none 0 0, by rw [HJR.out]; rfl, by rw [HJR.out]; exact own_nil _ _ _ _, by rw [HJR.out]; exact own_nil _ _ _ _, by rw [HJR.out]; exact own_nil _ _ _ _, fun k hk => by simp [Value.ownBlock] at hk, HB.out⟩
    have hd := decide_eq_false h64
    have hd1 : decide (win > 65536) = true := decide_eq_true (by omega)
    go_enter Try.func28, Try.ntmps28
    go_wp2
    refine bodyPost_ret (results_ct rfl _ _ w.heap.size 29 _ (0, 0) _ rfl HZ.out Try.underlying29 rfl (by kernel_rfl)) rfl ?_
    exact ⟨.slice none 0 0, .slice none 0 0, .slice none 0 0, by rw [HJR.out]; rfl, by rw [HJR.out]; exact own_nil _ _ _ _, by rw [HJR.out]; exact own_nil _ _ _ _, by rw [HJR.out]; exact own_nil _ _ _ _, fun k hk => by simp [Value.ownBlock] at hk, HB.out⟩
  have hw0 : decide (win < 64) = false := decide_eq_false (by omega)
  have hw1 : decide (win > 65536) = false := decide_eq_false (by omega)
  have HJR : Hd (joinR win X = jn win X 0 [] [] []) := ⟨if_neg (by omega)⟩
  go_enter Try.func28, Try.ntmps28
  go_wp2
  clear hw0 hw1
  have HJ0 : Hd (JB w w.heap.size (w.heap.size + 1) ((w.alloc (.cells #[.slice none 0 0, .slice none 0 0, .slice none 0 0] 29)).alloc (.cells #[.slice none 0 0, .slice none 0 0, .slice none 0 0] 29)) (.slice none 0 0) (.slice none 0 0) (.slice none 0 0) [] [] []) := ⟨by
    refine ⟨blk_alloc (blk_new w _) _, ?_, Nat.le_refl _, by omega, by omega, fun k hk => by simp [Value.ownBlock] at hk, own_nil _ _ _ _, own_nil _ _ _ _, own_nil _ _ _ _, ((Below.refl _ _).alloc (Nat.le_refl _) _).alloc (by simp) _⟩
    have := blk_new (w.alloc (.cells #[.slice none 0 0, .slice none 0 0, .slice none 0 0] 29)) (.cells #[.slice none 0 0, .slice none 0 0, .slice none 0 0] 29)
    simpa using this⟩
  go_loopg [7, 22] n (fun k v7 v22 W => ∃ (i : Nat) (at_ : Int) (s d x : Value) (sl : List S82) (dl xl : List Int), v7 = .int .i64 at_ ∧ v22 = .int .i64 i ∧ i + k = n ∧ Hd (JB w w.heap.size (w.heap.size + 1) W s d x sl dl xl) ∧ Hd (jn win (X.drop i) at_ sl dl xl = joinR win X) ∧ Hd (-100000000 ≤ at_ ∧ at_ ≤ 100000000) ∧ Hd (sl.length + totS (X.drop i) ≤ 5000000000000 ∧ dl.length + totD (X.drop i) ≤ 100000000000000 ∧ xl.length + totX (X.drop i) ≤ 100000000000000))
  case atStart => exact ⟨0, 0, _, _, _, [], [], [], rfl, rfl, by omega, HJ0, ⟨HJR.out.symm⟩, ⟨by decide⟩, ⟨by simpa using HT.out⟩⟩
  case round =>
    clear HJ0
    obtain ⟨i, at_, s, d, x, sl, dl, xl, rfl, rfl, hk, HJ, HP, HA, HL⟩ := hrel
    rcases gk with _ | g1
    · have hlt : decide ((i : Int) < (n : Int)) = false := decide_eq_false (by omega)
      have hi : i = n := by omega
      have HF : Hd (joinR win X = ((sl, dl, xl), 0)) := ⟨by rw [← HP.out, show X.drop i = [] from List.drop_eq_nil_of_le (by have := HXL.out; omega)]; rfl⟩
      obtain ⟨As, cs, rfl⟩ := HJ.out.s.form rfl
      obtain ⟨Ad, cd, rfl⟩ := own_slice HJ.out.d
      obtain ⟨Ax, cx, rfl⟩ := own_slice HJ.out.x
      have hy := HJ.out.b1
      have hz := HJ.out.b0
      have y0 := blk_cell hy 0
      have y1 := blk_cell hy 1
      have y2 := blk_cell hy 2
      have z0 := blk_cell hz 0
      have z1 := blk_cell hz 1
      have z2 := blk_cell hz 2
      have zf0 := blk_frozen hz 0
      have zf1 := blk_frozen hz 1
      have zf2 := blk_frozen hz 2
      simp at y0 y1 y2 z0 z1 z2
      have HZ3 := Hd.mk (store3 (u0 := .slice As sl.length cs) (u1 := .slice Ad dl.length cd) (u2 := .slice Ax xl.length cx) hz)
      have HO3 := Hd.mk (And.intro (own_store3 (u0 := .slice As sl.length cs) (u1 := .slice Ad dl.length cd) (u2 := .slice Ax xl.length cx) hz HJ.out.s (by decide)) (And.intro (own_store3 (u0 := .slice As sl.length cs) (u1 := .slice Ad dl.length cd) (u2 := .slice Ax xl.length cx) hz HJ.out.d (by decide)) (own_store3 (u0 := .slice As sl.length cs) (u1 := .slice Ad dl.length cd) (u2 := .slice Ax xl.length cx) hz HJ.out.x (by decide))))
      have HB3 := Hd.mk (((HJ.out.be.setCell HJ.out.h0 (p := ⟨w.heap.size, 0, none⟩) (.slice As sl.length cs)).setCell (p := ⟨w.heap.size, 1, none⟩) HJ.out.h0 (.slice Ad dl.length cd)).setCell (p := ⟨w.heap.size, 2, none⟩) HJ.out.h0 (.slice Ax xl.length cx))
      have HNE := Hd.mk HJ.out.ne
      clear hy hz hi
      go_wp2
      refine bodyPost_ret (results_ct rfl _ _ w.heap.size 29 _ (0, 0) _ rfl HZ3.out Try.underlying29 rfl (by kernel_rfl)) rfl ?_
      exact ⟨.slice As sl.length cs, .slice Ad dl.length cd, .slice Ax xl.length cx, by rw [HF.out]; rfl, by rw [HF.out]; exact HO3.out.1, by rw [HF.out]; exact HO3.out.2.1, by rw [HF.out]; exact HO3.out.2.2, HNE.out, HB3.out⟩
    have hlt : decide ((i : Int) < (n : Int)) = true := decide_eq_true (by omega)
    have hng : decide ((0 : Int) ≤ (i : Int)) = true := decide_eq_true (by omega)
    have hin : i < n := by omega
    have hdr0 := drop_rd43 X i (by have := HXL.out; omega)
    obtain ⟨ad, A1, a1, A2, a2, A3, a3, e1, x0, x1, x2, x3, l1, g1', l2, g2', l3, g3'⟩ := at_T43 HX.out (i : Int) (by omega) (by omega)
    subst e1
    obtain ⟨y, hy⟩ : ∃ z, rd_T43 X (i : Int) = z := ⟨_, rfl⟩
    rw [hy] at x0 x1 x2 x3 l1 g1' l2 g2' l3 g3' hdr0
    have hdr := Hd.mk hdr0
    have x0 := (HJ.out.be.cell (World.block_lt_of_cell? w _ x0)).trans x0
    have x1 := (HJ.out.be.cell (World.block_lt_of_cell? w _ x1)).trans x1
    have x2 := (HJ.out.be.cell (World.block_lt_of_cell? w _ x2)).trans x2
    have x3 := (HJ.out.be.cell (World.block_lt_of_cell? w _ x3)).trans x3
    rw [Int.toNat_natCast] at x0 x1 x2 x3
    have hll := HL.out
    rw [hdr0] at hll
    simp only [totS, totD, totX] at hll
    have HE : Hd (EdC w A1 a1 y.f1.f0 A2 a2 y.f1.f1 A3 a3 y.f1.f2) := ⟨⟨g1', g2', g3', l1, l2, l3⟩⟩
    have hpc := fun (W : World) (hW : Below w.heap.size w W) => pck_c (HE.out.below hW) y.f0 16777216 (szW y) rfl
    obtain ⟨r, hr⟩ : ∃ r, pchk y.f0 y.f1.f0 y.f1.f1 y.f1.f2 16777216 (szW y) = r := ⟨_, rfl⟩
    simp only [hr] at hpc
    obtain ⟨p, hp⟩ : ∃ p, y.f0 = p := ⟨_, rfl⟩
    obtain ⟨ns, hns⟩ : ∃ k, y.f1.f0.length = k := ⟨_, rfl⟩
    obtain ⟨nd, hnd⟩ : ∃ k, y.f1.f1.length = k := ⟨_, rfl⟩
    obtain ⟨nx, hnx⟩ : ∃ k, y.f1.f2.length = k := ⟨_, rfl⟩
    have HY := Hd.mk (And.intro hp (And.intro hns (And.intro hnd hnx)))
    have HSZ : Hd (szW y = (nd : Int) + (nx : Int)) := ⟨by rw [← hnd, ← hnx]; rfl⟩
    have HR := Hd.mk hr
    simp only [HSZ.out, hp, hns, hnd, hnx] at hpc
    have HPC := Hd.mk hpc
    rw [hp] at x0
    rw [hns] at x1 hll
    rw [hnd] at x2 hll
    rw [hnx] at x3 hll
    have HLL := Hd.mk hll
    have hndb : nd ≤ 100000000000000 := by omega
    have hnxb : nx ≤ 100000000000000 := by omega
    clear l1 g1' l2 g2' l3 g3' hdr0 hy hll hpc hr hp hns hnd hnx HL
    have hba := (Below.refl wr.heap.size wr).alloc (Nat.le_refl _) (.cells #[.int .i64 p, .slice A1 ns a1, .slice A2 nd a2, .slice A3 nx a3] 43)
    have hbn := blk_new wr (.cells #[.int .i64 p, .slice A1 ns a1, .slice A2 nd a2, .slice A3 nx a3] 43)
    obtain ⟨g9, hg9⟩ : ∃ g, wr.heap.size = g := ⟨_, rfl⟩
    rw [hg9] at hbn
    obtain ⟨w1, hw1⟩ : ∃ v, wr.alloc (.cells #[.int .i64 p, .slice A1 ns a1, .slice A2 nd a2, .slice A3 nx a3] 43) = v := ⟨_, rfl⟩
    have HJk := Hd.mk (HJ.out.below hba)
    rw [hw1] at hbn HJk
    have HW1 := Hd.mk hw1
    have HBX := Hd.mk hbn
    have HG9 : Hd (g9 ≠ w.heap.size + 1) := ⟨by have := blk_lt HJ.out.b1; omega⟩
    have c0 := blk_cell hbn 0
    have c1' := blk_cell hbn 1
    have c2' := blk_cell hbn 2
    have c3' := blk_cell hbn 3
    simp at c0 c1' c2' c3'
    clear hba hbn hw1 HJ
    go_upto_region 8 with fail
    rw [HW1.out]
    clear HW1 x0 x1 x2 x3 hlt hng hg9
    have hsub : decide ((i : Int) < (n : Int) - 1) = decide (i + 1 < n) := by rw [Bool.eq_iff_iff]; simp only [decide_eq_true_eq]; omega
    by_cases hlast : i + 1 < n
    rotate_left
    · rw [decide_eq_false hlast] at hsub
      by_cases hg : (nd : Int) + (nx : Int) > win
      · have hgt : decide ((nd : Int) + (nx : Int) > win) = true := decide_eq_true hg
        have HNO : Hd ((X.drop (i + 1) ≠ [] ∧ szW y ≠ win) ∨ win < szW y ∨ pchk y.f0 y.f1.f0 y.f1.f1 y.f1.f2 16777216 (szW y) ≠ 0) := ⟨.inr (.inl (by rw [HSZ.out]; exact hg))⟩
        have hj0 : jn (win) (y :: X.drop (i + 1)) at_ sl dl xl = (([], [], []), 171) := if_pos HNO.out
        have HJ0 : Hd (joinR (win) X = (([], [], []), 171)) := ⟨by rw [← HP.out, hdr.out, hj0]⟩
        have hz := HJk.out.b0
        have z0 := blk_cell hz 0
        have z1 := blk_cell hz 1
        have z2 := blk_cell hz 2
        have zf0 := blk_frozen hz 0
        have zf1 := blk_frozen hz 1
        have zf2 := blk_frozen hz 2
        simp at z0 z1 z2
        have HZ3 := Hd.mk (store3 (u0 := .slice none 0 0) (u1 := .slice none 0 0) (u2 := .slice none 0 0) hz)
        have HB3 := Hd.mk (((HJk.out.be.setCell HJk.out.h0 (p := ⟨w.heap.size, 0, none⟩) (.slice none 0 0)).setCell (p := ⟨w.heap.size, 1, none⟩) HJk.out.h0 (.slice none 0 0)).setCell (p := ⟨w.heap.size, 2, none⟩) HJk.out.h0 (.slice none 0 0))
        clear hz hj0
        go_wp2
        refine bodyPost_ret (results_ct rfl _ _ w.heap.size 29 _ (0, 0) _ rfl HZ3.out Try.underlying29 rfl (by kernel_rfl)) rfl ?_
        exact ⟨.slice none 0 0, .slice none 0 0, .slice none 0 0, by rw [HJ0.out]; rfl, by rw [HJ0.out]; exact own_nil _ _ _ _, by rw [HJ0.out]; exact own_nil _ _ _ _, by rw [HJ0.out]; exact own_nil _ _ _ _, fun k hk => by simp [Value.ownBlock] at hk, HB3.out⟩
      have hgt : decide ((nd : Int) + (nx : Int) > win) = false := decide_eq_false hg
      have HOK : Hd (r = 0 → jn win (y :: X.drop (i + 1)) at_ sl dl xl = jn win (X.drop (i + 1)) (movS y.f1.f0 y.f0) (jnS y at_ sl) (dl ++ y.f1.f1) (xl ++ y.f1.f2)) := ⟨fun h0 => if_neg (by
        have hnil : X.drop (i + 1) = [] := List.drop_eq_nil_of_le (by have := HXL.out; omega)
        rw [HSZ.out, show pchk y.f0 y.f1.f0 y.f1.f1 y.f1.f2 16777216 ((nd : Int) + (nx : Int)) = r by rw [← HSZ.out]; exact HR.out, h0, hnil]
        simp
        omega)⟩
      clear hg
      go_wp2_with fail
      refine (HPC.out _ HJk.out.be).mono ?_
      rintro e w2 ⟨rfl, hb2⟩
      have HJ2 := Hd.mk (HJk.out.below hb2)
      have HX2 := Hd.mk (blk_below HBX.out hb2)
      clear hb2 HJk HBX c0 c1' c2' c3'
      have c0 := blk_cell HX2.out 0
      have c1' := blk_cell HX2.out 1
      have c2' := blk_cell HX2.out 2
      have c3' := blk_cell HX2.out 3
      simp at c0 c1' c2' c3'
      by_cases hr0 : r = 0
      rotate_left
      · have hrn : (r == 0) = false := by simpa using hr0
        have HJk := HJ2
        have HNO : Hd ((X.drop (i + 1) ≠ [] ∧ szW y ≠ (win)) ∨ (win) < szW y ∨ pchk y.f0 y.f1.f0 y.f1.f1 y.f1.f2 16777216 (szW y) ≠ 0) := ⟨.inr (.inr (by rw [HR.out]; exact hr0))⟩
        have hj0 : jn (win) (y :: X.drop (i + 1)) at_ sl dl xl = (([], [], []), 171) := if_pos HNO.out
        have HJ0 : Hd (joinR (win) X = (([], [], []), 171)) := ⟨by rw [← HP.out, hdr.out, hj0]⟩
        have hz := HJk.out.b0
        have z0 := blk_cell hz 0
        have z1 := blk_cell hz 1
        have z2 := blk_cell hz 2
        have zf0 := blk_frozen hz 0
        have zf1 := blk_frozen hz 1
        have zf2 := blk_frozen hz 2
        simp at z0 z1 z2
        have HZ3 := Hd.mk (store3 (u0 := .slice none 0 0) (u1 := .slice none 0 0) (u2 := .slice none 0 0) hz)
        have HB3 := Hd.mk (((HJk.out.be.setCell HJk.out.h0 (p := ⟨w.heap.size, 0, none⟩) (.slice none 0 0)).setCell (p := ⟨w.heap.size, 1, none⟩) HJk.out.h0 (.slice none 0 0)).setCell (p := ⟨w.heap.size, 2, none⟩) HJk.out.h0 (.slice none 0 0))
        clear hz hj0
        go_wp2
        refine bodyPost_ret (results_ct rfl _ _ w.heap.size 29 _ (0, 0) _ rfl HZ3.out Try.underlying29 rfl (by kernel_rfl)) rfl ?_
        exact ⟨.slice none 0 0, .slice none 0 0, .slice none 0 0, by rw [HJ0.out]; rfl, by rw [HJ0.out]; exact own_nil _ _ _ _, by rw [HJ0.out]; exact own_nil _ _ _ _, by rw [HJ0.out]; exact own_nil _ _ _ _, fun k hk => by simp [Value.ownBlock] at hk, HB3.out⟩
      subst hr0
      have HP1 : Hd (jn (win) (X.drop (i + 1)) (movS y.f1.f0 y.f0) (jnS y at_ sl) (dl ++ y.f1.f1) (xl ++ y.f1.f2) = joinR (win) X) := ⟨by rw [← HP.out, hdr.out, HOK.out rfl]⟩
      obtain ⟨hwks, _, _, hp0, hp1, _⟩ := pchk_wks HR.out
      rw [HY.out.1] at hwks hp0 hp1
      have HWK : Hd (∃ m k, WkS 16777216 y.f1.f0 p m k) := ⟨⟨_, _, hwks⟩⟩
      have ha := HA.out
      clear hwks HP HOK HR HPC HA
      by_cases hpa : p = at_
      · subst hpa
        have HJS : Hd (jnS y p sl = sl ++ y.f1.f0) := ⟨by unfold jnS; rw [if_pos HY.out.1]⟩
        have hsn : sl.length + ns ≤ 5000000000000 := by have := HLL.out; omega
        go_wp2
        clear c0 c1' c2' c3'
        go_loopg [7, 78] ns (fun q v7 v78 W => ∃ (j : Nat) (a : Int) (s' : Value), v7 = .int .i64 a ∧ v78 = .int .i64 j ∧ j + q = ns ∧ Hd (JB w w.heap.size (w.heap.size + 1) W s' d x (sl ++ y.f1.f0.take j) dl xl) ∧ Hd (W.heap[g9]? = some (.cells #[.int .i64 p, .slice A1 ns a1, .slice A2 nd a2, .slice A3 nx a3] 43 (0, 0))) ∧ Hd (movS (y.f1.f0.drop j) a = movS y.f1.f0 p) ∧ Hd (∃ m k, WkS 16777216 (y.f1.f0.drop j) a m k) ∧ Hd (-100000000 ≤ a ∧ a ≤ 100000000))
        case atStart => exact ⟨0, p, _, rfl, rfl, by omega, ⟨by rw [List.take_zero, List.append_nil]; exact HJ2.out⟩, HX2, ⟨rfl⟩, HWK, ⟨by omega⟩⟩
        case round =>
          clear HJ2 HX2 HWK ha hp0 hp1
          obtain ⟨j, a, s', rfl, rfl, hjq, HJ, HX9, HM, HWj, HAj⟩ := hrel
          rcases gk with _ | q
          · have hlt : decide ((j : Int) < (ns : Int)) = false := decide_eq_false (by omega)
            have hj : j = ns := by omega
            have HJn : Hd (JB w w.heap.size (w.heap.size + 1) wr s' d x (sl ++ y.f1.f0) dl xl) := ⟨by have := HJ.out; rwa [List.take_of_length_le (by rw [HY.out.2.1]; omega)] at this⟩
            have HMa : Hd (a = movS y.f1.f0 y.f0) := ⟨by have := HM.out; rw [List.drop_eq_nil_of_le (by rw [HY.out.2.1]; omega)] at this; rw [HY.out.1]; exact this⟩
            obtain ⟨Ad, cd, rfl⟩ := own_slice HJn.out.d
            obtain ⟨Ax, cx, rfl⟩ := own_slice HJn.out.x
            have hcd := Kd.C_below HE.out.di HJn.out.be
            have hcx := Kd.C_below HE.out.ex HJn.out.be
            rw [HY.out.2.2.1] at hcd
            rw [HY.out.2.2.2] at hcx
            have y1 := blk_cell HJn.out.b1 1
            have q2 := blk_cell HX9.out 2
            simp at y1 q2
            obtain ⟨A4, c4, w4, hrun4, hb4, hj4, hold4⟩ := HJn.out.addD (A := A2) (c := a2) hcd (by have := HLL.out; omega)
            have hx4 := hold4 g9 _ _ HX9.out HG9.out (by decide)
            have hx4' := (Below.heap_setCell w4 ⟨w.heap.size + 1, 1, none⟩ (.slice A4 (dl.length + nd) c4) g9 HG9.out).symm.trans hx4
            have v41 := blk_cell hb4 1
            have v42 := blk_cell hb4 2
            have vf1 := blk_frozen hb4 1
            have v93 := blk_cell hx4 3
            have v93' := blk_cell hx4' 3
            have v42' := blk_cell hj4.b1 2
            simp at v41 v42 v93 v93' v42'
            have hcx4 := Kd.C_below (HE.out.ex) hj4.be
            rw [HY.out.2.2.2] at hcx4
            obtain ⟨A5, c5, w5, hrun5, hb5, hj5, hold5⟩ := hj4.addX (A := A3) (c := a3) hcx4 (by have := HLL.out; omega)
            have v52 := blk_cell hb5 2
            have vf2 := blk_frozen hb5 2
            simp at v52
            have HJ5 := Hd.mk hj5
            clear hcd hcx hb4 hj4 hold4 hx4 hx4' hcx4 hb5 hj5 hold5 HJ HM HWj HX9 HJn
            go_wp2
            clear hrun4 hrun5 y1 q2 v41 v42 vf1 v93 v93' v42' v52 vf2
            go_roundg g1
            case measure => omega
            case rel =>
              refine ⟨i + 1, a, s', _, _, sl ++ y.f1.f0, dl ++ y.f1.f1, xl ++ y.f1.f2, rfl, by go_num, by omega, HJ5, ⟨?_⟩, HAj, ⟨?_⟩⟩
              · rw [← HP1.out, HJS.out, HMa.out]
              have h1 := HLL.out
              have h2 := HY.out
              simp only [List.length_append, List.length_cons, List.length_nil, h2.2.1, h2.2.2.1, h2.2.2.2]
              exact ⟨by omega, by omega, by omega⟩
          have hlt : decide ((j : Int) < (ns : Int)) = true := decide_eq_true (by omega)
          have hng : decide ((0 : Int) ≤ (j : Int)) = true := decide_eq_true (by omega)
          have hjl : j < y.f1.f0.length := by rw [HY.out.2.1]; omega
          have hcs := Kd.C_below HE.out.s HJ.out.be
          rw [HY.out.2.1] at hcs
          obtain ⟨sd, es, t0, t1, t2⟩ := at_T82 hcs (j : Int) (by omega) (by omega)
          subst es
          rw [Int.toNat_natCast] at t0 t1 t2
          have hdt := drop_rd82 y.f1.f0 j hjl
          have htk := take82 y.f1.f0 j hjl
          obtain ⟨t, ht⟩ : ∃ t, rd_T82 y.f1.f0 (j : Int) = t := ⟨_, rfl⟩
          rw [ht] at t0 t1 t2 hdt htk
          obtain ⟨f0, f1, f2⟩ := t
          simp only at t0 t1 t2
          obtain ⟨m, k', hwk⟩ := HWj.out
          rw [hdt] at hwk
          have hwk : ((0 ≤ f0 ∧ f0 ≤ 65536) ∧ (0 ≤ f1 ∧ f1 ≤ 65536) ∧ -16777216 ≤ f2 ∧ f2 ≤ 16777216) ∧ (0 ≤ a ∧ a + f0 ≤ 16777216) ∧ (f0.toNat ≤ m ∧ f1.toNat ≤ k') ∧ WkS 16777216 (y.f1.f0.drop (j + 1)) (a + f0 + f2) (m - f0.toNat) (k' - f1.toNat) := hwk
          obtain ⟨⟨⟨k0, k1⟩, _, k2, k3⟩, ⟨k4, k5⟩, _, hwk⟩ := hwk
          have HW2 : Hd (∃ m k, WkS 16777216 (y.f1.f0.drop (j + 1)) (a + (f0 + f2)) m k) := ⟨⟨_, _, by rw [← Int.add_assoc]; exact hwk⟩⟩
          have HM2 : Hd (movS (y.f1.f0.drop (j + 1)) (a + (f0 + f2)) = movS y.f1.f0 p) := ⟨by rw [← HM.out, hdt]; rfl⟩
          have HTK : Hd (sl ++ y.f1.f0.take (j + 1) = (sl ++ y.f1.f0.take j) ++ [⟨f0, f1, f2⟩]) := ⟨by rw [htk]; exact (List.append_assoc _ _ _).symm⟩
          clear hcs hdt htk ht hwk HWj HM
          obtain ⟨ls, hls⟩ : ∃ l, sl ++ y.f1.f0.take j = l := ⟨_, rfl⟩
          rw [hls] at HJ HTK
          have hlsn : ls.length ≤ 5000000000000 := by rw [← hls, List.length_append, List.length_take]; omega
          clear hls
          obtain ⟨As, cs, rfl⟩ := HJ.out.s.form rfl
          have y0 := blk_cell HJ.out.b1 0
          simp at y0
          have hlt1 := blk_lt HJ.out.b1
          have hba := ((Below.refl wr.heap.size wr).alloc (Nat.le_refl _) (.cells #[.int .i64 f0, .int .i64 f1, .int .i64 f2] 82)).alloc (by simp) (.cells #[.int .i64 f0, .int .i64 f1, .int .i64 f2] 82)
          have hbn : ((wr.alloc (.cells #[.int .i64 f0, .int .i64 f1, .int .i64 f2] 82)).alloc (.cells #[.int .i64 f0, .int .i64 f1, .int .i64 f2] 82)).heap[wr.heap.size + 1]? = some (.cells #[.int .i64 f0, .int .i64 f1, .int .i64 f2] 82) := by
            have := blk_new (wr.alloc (.cells #[.int .i64 f0, .int .i64 f1, .int .i64 f2] 82)) (.cells #[.int .i64 f0, .int .i64 f1, .int .i64 f2] 82)
            simpa using this
          obtain ⟨A', c', w3, hrun, hb3, hj3, hold⟩ := (HJ.out.below hba).pushS (t := ⟨f0, f1, f2⟩) hbn (by omega)
          have HX3 := Hd.mk (hold g9 _ _ (blk_below HX9.out hba) HG9.out (by decide))
          have HJ3 : Hd (JB w w.heap.size (w.heap.size + 1) (w3.setCell ⟨w.heap.size + 1, 0, none⟩ (.slice A' (ls.length + 1) c')) (.slice A' (ls.length + 1) c') d x (sl ++ y.f1.f0.take (j + 1)) dl xl) := ⟨by rw [HTK.out]; exact hj3⟩
          have z0 := blk_cell hb3 0
          have zf0 := blk_frozen hb3 0
          simp at z0
          clear hba hbn hj3 hold hb3 HJ HX9
          have hAj := HAj.out
          go_wp2
          clear hrun z0 zf0 y0 hlt1 t0 t1 t2
          go_roundg q
          case measure => omega
          case rel => exact ⟨j + 1, a + (f0 + f2), _, by go_num, by go_num, by omega, HJ3, HX3, HM2, HW2, ⟨by omega⟩⟩
      have hq1 : (p == at_) = false := by simpa using hpa
      have HJS : Hd (jnS y at_ sl = (sl ++ [⟨0, 0, p - at_⟩]) ++ y.f1.f0) := ⟨by unfold jnS; rw [if_neg (by rw [HY.out.1]; exact hpa), HY.out.1]⟩
      have hsn : (sl ++ [(⟨0, 0, p - at_⟩ : S82)]).length + ns ≤ 5000000000000 := by have := HLL.out; rw [List.length_append]; simp only [List.length_cons, List.length_nil]; omega
      obtain ⟨As, cs, rfl⟩ := HJ2.out.s.form rfl
      have y0 := blk_cell HJ2.out.b1 0
      simp at y0
      have hlt1 := blk_lt HJ2.out.b1
      have hlt9 := blk_lt HX2.out
      have hba := (Below.refl w2.heap.size w2).alloc (Nat.le_refl _) (.cells #[.int .i64 0, .int .i64 0, .int .i64 (p - at_)] 82)
      obtain ⟨A', c', w3, hrun, hb3, hj3, hold⟩ := (HJ2.out.below hba).pushS (t := ⟨0, 0, p - at_⟩) (blk_new w2 _) (by have := HLL.out; omega)
      have HX3 := Hd.mk (hold g9 _ _ (blk_below HX2.out hba) HG9.out (by decide))
      have HJ3 := Hd.mk hj3
      have z0 := blk_cell hb3 0
      have zf0 := blk_frozen hb3 0
      have x30 := blk_cell HX3.out 0
      have x31 := blk_cell HX3.out 1
      simp at z0 x30 x31
      have w30 := blk_cell ((Below.heap_setCell w3 ⟨w.heap.size + 1, 0, none⟩ (.slice A' (sl.length + 1) c') g9 HG9.out).symm.trans HX3.out) 0
      have w31 := blk_cell ((Below.heap_setCell w3 ⟨w.heap.size + 1, 0, none⟩ (.slice A' (sl.length + 1) c') g9 HG9.out).symm.trans HX3.out) 1
      simp at w30 w31
      clear hba hj3 hold hb3 hpa
      go_wp2
      clear hrun z0 zf0 x30 x31 w30 w31 y0 hlt1 hlt9
      clear c0 c1' c2' c3'
      go_loopg [7, 78] ns (fun q v7 v78 W => ∃ (j : Nat) (a : Int) (s' : Value), v7 = .int .i64 a ∧ v78 = .int .i64 j ∧ j + q = ns ∧ Hd (JB w w.heap.size (w.heap.size + 1) W s' d x ((sl ++ [⟨0, 0, p - at_⟩]) ++ y.f1.f0.take j) dl xl) ∧ Hd (W.heap[g9]? = some (.cells #[.int .i64 p, .slice A1 ns a1, .slice A2 nd a2, .slice A3 nx a3] 43 (0, 0))) ∧ Hd (movS (y.f1.f0.drop j) a = movS y.f1.f0 p) ∧ Hd (∃ m k, WkS 16777216 (y.f1.f0.drop j) a m k) ∧ Hd (-100000000 ≤ a ∧ a ≤ 100000000))
      case atStart => exact ⟨0, p, _, rfl, rfl, by omega, ⟨by rw [List.take_zero, List.append_nil]; exact HJ3.out⟩, HX3, ⟨rfl⟩, HWK, ⟨by omega⟩⟩
      case round =>
        clear HJ3 HX3 HWK ha hp0 hp1
        obtain ⟨j, a, s', rfl, rfl, hjq, HJ, HX9, HM, HWj, HAj⟩ := hrel
        rcases gk with _ | q
        · have hlt : decide ((j : Int) < (ns : Int)) = false := decide_eq_false (by omega)
          have hj : j = ns := by omega
          have HJn : Hd (JB w w.heap.size (w.heap.size + 1) wr s' d x ((sl ++ [⟨0, 0, p - at_⟩]) ++ y.f1.f0) dl xl) := ⟨by have := HJ.out; rwa [List.take_of_length_le (by rw [HY.out.2.1]; omega)] at this⟩
          have HMa : Hd (a = movS y.f1.f0 y.f0) := ⟨by have := HM.out; rw [List.drop_eq_nil_of_le (by rw [HY.out.2.1]; omega)] at this; rw [HY.out.1]; exact this⟩
          obtain ⟨Ad, cd, rfl⟩ := own_slice HJn.out.d
          obtain ⟨Ax, cx, rfl⟩ := own_slice HJn.out.x
          have hcd := Kd.C_below HE.out.di HJn.out.be
          have hcx := Kd.C_below HE.out.ex HJn.out.be
          rw [HY.out.2.2.1] at hcd
          rw [HY.out.2.2.2] at hcx
          have y1 := blk_cell HJn.out.b1 1
          have q2 := blk_cell HX9.out 2
          simp at y1 q2
          obtain ⟨A4, c4, w4, hrun4, hb4, hj4, hold4⟩ := HJn.out.addD (A := A2) (c := a2) hcd (by have := HLL.out; omega)
          have hx4 := hold4 g9 _ _ HX9.out HG9.out (by decide)
          have hx4' := (Below.heap_setCell w4 ⟨w.heap.size + 1, 1, none⟩ (.slice A4 (dl.length + nd) c4) g9 HG9.out).symm.trans hx4
          have v41 := blk_cell hb4 1
          have v42 := blk_cell hb4 2
          have vf1 := blk_frozen hb4 1
          have v93 := blk_cell hx4 3
          have v93' := blk_cell hx4' 3
          have v42' := blk_cell hj4.b1 2
          simp at v41 v42 v93 v93' v42'
          have hcx4 := Kd.C_below (HE.out.ex) hj4.be
          rw [HY.out.2.2.2] at hcx4
          obtain ⟨A5, c5, w5, hrun5, hb5, hj5, hold5⟩ := hj4.addX (A := A3) (c := a3) hcx4 (by have := HLL.out; omega)
          have v52 := blk_cell hb5 2
          have vf2 := blk_frozen hb5 2
          simp at v52
          have HJ5 := Hd.mk hj5
          clear hcd hcx hb4 hj4 hold4 hx4 hx4' hcx4 hb5 hj5 hold5 HJ HM HWj HX9 HJn
          go_wp2
          clear hrun4 hrun5 y1 q2 v41 v42 vf1 v93 v93' v42' v52 vf2
          go_roundg g1
          case measure => omega
          case rel =>
            refine ⟨i + 1, a, s', _, _, (sl ++ [⟨0, 0, p - at_⟩]) ++ y.f1.f0, dl ++ y.f1.f1, xl ++ y.f1.f2, rfl, by go_num, by omega, HJ5, ⟨?_⟩, HAj, ⟨?_⟩⟩
            · rw [← HP1.out, HJS.out, HMa.out]
            have h1 := HLL.out
            have h2 := HY.out
            simp only [List.length_append, List.length_cons, List.length_nil, h2.2.1, h2.2.2.1, h2.2.2.2]
            exact ⟨by omega, by omega, by omega⟩
        have hlt : decide ((j : Int) < (ns : Int)) = true := decide_eq_true (by omega)
        have hng : decide ((0 : Int) ≤ (j : Int)) = true := decide_eq_true (by omega)
        have hjl : j < y.f1.f0.length := by rw [HY.out.2.1]; omega
        have hcs := Kd.C_below HE.out.s HJ.out.be
        rw [HY.out.2.1] at hcs
        obtain ⟨sd, es, t0, t1, t2⟩ := at_T82 hcs (j : Int) (by omega) (by omega)
        subst es
        rw [Int.toNat_natCast] at t0 t1 t2
        have hdt := drop_rd82 y.f1.f0 j hjl
        have htk := take82 y.f1.f0 j hjl
        obtain ⟨t, ht⟩ : ∃ t, rd_T82 y.f1.f0 (j : Int) = t := ⟨_, rfl⟩
        rw [ht] at t0 t1 t2 hdt htk
        obtain ⟨f0, f1, f2⟩ := t
        simp only at t0 t1 t2
        obtain ⟨m, k', hwk⟩ := HWj.out
        rw [hdt] at hwk
        have hwk : ((0 ≤ f0 ∧ f0 ≤ 65536) ∧ (0 ≤ f1 ∧ f1 ≤ 65536) ∧ -16777216 ≤ f2 ∧ f2 ≤ 16777216) ∧ (0 ≤ a ∧ a + f0 ≤ 16777216) ∧ (f0.toNat ≤ m ∧ f1.toNat ≤ k') ∧ WkS 16777216 (y.f1.f0.drop (j + 1)) (a + f0 + f2) (m - f0.toNat) (k' - f1.toNat) := hwk
        obtain ⟨⟨⟨k0, k1⟩, _, k2, k3⟩, ⟨k4, k5⟩, _, hwk⟩ := hwk
        have HW2 : Hd (∃ m k, WkS 16777216 (y.f1.f0.drop (j + 1)) (a + (f0 + f2)) m k) := ⟨⟨_, _, by rw [← Int.add_assoc]; exact hwk⟩⟩
        have HM2 : Hd (movS (y.f1.f0.drop (j + 1)) (a + (f0 + f2)) = movS y.f1.f0 p) := ⟨by rw [← HM.out, hdt]; rfl⟩
        have HTK : Hd ((sl ++ [⟨0, 0, p - at_⟩]) ++ y.f1.f0.take (j + 1) = ((sl ++ [⟨0, 0, p - at_⟩]) ++ y.f1.f0.take j) ++ [⟨f0, f1, f2⟩]) := ⟨by rw [htk]; exact (List.append_assoc _ _ _).symm⟩
        clear hcs hdt htk ht hwk HWj HM
        obtain ⟨ls, hls⟩ : ∃ l, (sl ++ [⟨0, 0, p - at_⟩]) ++ y.f1.f0.take j = l := ⟨_, rfl⟩
        rw [hls] at HJ HTK
        have hlsn : ls.length ≤ 5000000000000 := by rw [← hls, List.length_append, List.length_take]; omega
        clear hls
        obtain ⟨As, cs, rfl⟩ := HJ.out.s.form rfl
        have y0 := blk_cell HJ.out.b1 0
        simp at y0
        have hlt1 := blk_lt HJ.out.b1
        have hba := ((Below.refl wr.heap.size wr).alloc (Nat.le_refl _) (.cells #[.int .i64 f0, .int .i64 f1, .int .i64 f2] 82)).alloc (by simp) (.cells #[.int .i64 f0, .int .i64 f1, .int .i64 f2] 82)
        have hbn : ((wr.alloc (.cells #[.int .i64 f0, .int .i64 f1, .int .i64 f2] 82)).alloc (.cells #[.int .i64 f0, .int .i64 f1, .int .i64 f2] 82)).heap[wr.heap.size + 1]? = some (.cells #[.int .i64 f0, .int .i64 f1, .int .i64 f2] 82) := by
          have := blk_new (wr.alloc (.cells #[.int .i64 f0, .int .i64 f1, .int .i64 f2] 82)) (.cells #[.int .i64 f0, .int .i64 f1, .int .i64 f2] 82)
          simpa using this
        obtain ⟨A', c', w3, hrun, hb3, hj3, hold⟩ := (HJ.out.below hba).pushS (t := ⟨f0, f1, f2⟩) hbn (by omega)
        have HX3 := Hd.mk (hold g9 _ _ (blk_below HX9.out hba) HG9.out (by decide))
        have HJ3 : Hd (JB w w.heap.size (w.heap.size + 1) (w3.setCell ⟨w.heap.size + 1, 0, none⟩ (.slice A' (ls.length + 1) c')) (.slice A' (ls.length + 1) c') d x ((sl ++ [⟨0, 0, p - at_⟩]) ++ y.f1.f0.take (j + 1)) dl xl) := ⟨by rw [HTK.out]; exact hj3⟩
        have z0 := blk_cell hb3 0
        have zf0 := blk_frozen hb3 0
        simp at z0
        clear hba hbn hj3 hold hb3 HJ HX9
        have hAj := HAj.out
        go_wp2
        clear hrun z0 zf0 y0 hlt1 t0 t1 t2
        go_roundg q
        case measure => omega
        case rel => exact ⟨j + 1, a + (f0 + f2), _, by go_num, by go_num, by omega, HJ3, HX3, HM2, HW2, ⟨by omega⟩⟩
    rw [decide_eq_true hlast] at hsub
    by_cases heq : (nd : Int) + (nx : Int) = win
    rotate_left
    · have hq : ((nd : Int) + (nx : Int) == win) = false := by simpa using heq
      have HNO : Hd ((X.drop (i + 1) ≠ [] ∧ szW y ≠ win) ∨ win < szW y ∨ pchk y.f0 y.f1.f0 y.f1.f1 y.f1.f2 16777216 (szW y) ≠ 0) := ⟨.inl ⟨fun e => by have := congrArg List.length e; rw [List.length_drop] at this; have := HXL.out; simp at *; omega, by rw [HSZ.out]; exact heq⟩⟩
      have hj0 : jn (win) (y :: X.drop (i + 1)) at_ sl dl xl = (([], [], []), 171) := if_pos HNO.out
      have HJ0 : Hd (joinR (win) X = (([], [], []), 171)) := ⟨by rw [← HP.out, hdr.out, hj0]⟩
      have hz := HJk.out.b0
      have z0 := blk_cell hz 0
      have z1 := blk_cell hz 1
      have z2 := blk_cell hz 2
      have zf0 := blk_frozen hz 0
      have zf1 := blk_frozen hz 1
      have zf2 := blk_frozen hz 2
      simp at z0 z1 z2
      have HZ3 := Hd.mk (store3 (u0 := .slice none 0 0) (u1 := .slice none 0 0) (u2 := .slice none 0 0) hz)
      have HB3 := Hd.mk (((HJk.out.be.setCell HJk.out.h0 (p := ⟨w.heap.size, 0, none⟩) (.slice none 0 0)).setCell (p := ⟨w.heap.size, 1, none⟩) HJk.out.h0 (.slice none 0 0)).setCell (p := ⟨w.heap.size, 2, none⟩) HJk.out.h0 (.slice none 0 0))
      clear hz hj0
      go_wp2
      refine bodyPost_ret (results_ct rfl _ _ w.heap.size 29 _ (0, 0) _ rfl HZ3.out Try.underlying29 rfl (by kernel_rfl)) rfl ?_
      exact ⟨.slice none 0 0, .slice none 0 0, .slice none 0 0, by rw [HJ0.out]; rfl, by rw [HJ0.out]; exact own_nil _ _ _ _, by rw [HJ0.out]; exact own_nil _ _ _ _, by rw [HJ0.out]; exact own_nil _ _ _ _, fun k hk => by simp [Value.ownBlock] at hk, HB3.out⟩
    subst heq
    have hgt : decide ((nd : Int) + (nx : Int) > (nd : Int) + (nx : Int)) = false := decide_eq_false (by omega)
    have HOK : Hd (r = 0 → jn ((nd : Int) + (nx : Int)) (y :: X.drop (i + 1)) at_ sl dl xl = jn ((nd : Int) + (nx : Int)) (X.drop (i + 1)) (movS y.f1.f0 y.f0) (jnS y at_ sl) (dl ++ y.f1.f1) (xl ++ y.f1.f2)) := ⟨fun h0 => if_neg (by rw [HSZ.out, show pchk y.f0 y.f1.f0 y.f1.f1 y.f1.f2 16777216 ((nd : Int) + (nx : Int)) = r by rw [← HSZ.out]; exact HR.out, h0]; simp)⟩
    go_wp2_with fail
    refine (HPC.out _ HJk.out.be).mono ?_
    rintro e w2 ⟨rfl, hb2⟩
    have HJ2 := Hd.mk (HJk.out.below hb2)
    have HX2 := Hd.mk (blk_below HBX.out hb2)
    clear hb2 HJk HBX c0 c1' c2' c3'
    have c0 := blk_cell HX2.out 0
    have c1' := blk_cell HX2.out 1
    have c2' := blk_cell HX2.out 2
    have c3' := blk_cell HX2.out 3
    simp at c0 c1' c2' c3'
    by_cases hr0 : r = 0
    rotate_left
    · have hrn : (r == 0) = false := by simpa using hr0
      have HJk := HJ2
      have HNO : Hd ((X.drop (i + 1) ≠ [] ∧ szW y ≠ ((nd : Int) + (nx : Int))) ∨ ((nd : Int) + (nx : Int)) < szW y ∨ pchk y.f0 y.f1.f0 y.f1.f1 y.f1.f2 16777216 (szW y) ≠ 0) := ⟨.inr (.inr (by rw [HR.out]; exact hr0))⟩
      have hj0 : jn ((nd : Int) + (nx : Int)) (y :: X.drop (i + 1)) at_ sl dl xl = (([], [], []), 171) := if_pos HNO.out
      have HJ0 : Hd (joinR ((nd : Int) + (nx : Int)) X = (([], [], []), 171)) := ⟨by rw [← HP.out, hdr.out, hj0]⟩
      have hz := HJk.out.b0
      have z0 := blk_cell hz 0
      have z1 := blk_cell hz 1
      have z2 := blk_cell hz 2
      have zf0 := blk_frozen hz 0
      have zf1 := blk_frozen hz 1
      have zf2 := blk_frozen hz 2
      simp at z0 z1 z2
      have HZ3 := Hd.mk (store3 (u0 := .slice none 0 0) (u1 := .slice none 0 0) (u2 := .slice none 0 0) hz)
      have HB3 := Hd.mk (((HJk.out.be.setCell HJk.out.h0 (p := ⟨w.heap.size, 0, none⟩) (.slice none 0 0)).setCell (p := ⟨w.heap.size, 1, none⟩) HJk.out.h0 (.slice none 0 0)).setCell (p := ⟨w.heap.size, 2, none⟩) HJk.out.h0 (.slice none 0 0))
      clear hz hj0
      go_wp2
      refine bodyPost_ret (results_ct rfl _ _ w.heap.size 29 _ (0, 0) _ rfl HZ3.out Try.underlying29 rfl (by kernel_rfl)) rfl ?_
      exact ⟨.slice none 0 0, .slice none 0 0, .slice none 0 0, by rw [HJ0.out]; rfl, by rw [HJ0.out]; exact own_nil _ _ _ _, by rw [HJ0.out]; exact own_nil _ _ _ _, by rw [HJ0.out]; exact own_nil _ _ _ _, fun k hk => by simp [Value.ownBlock] at hk, HB3.out⟩
    subst hr0
    have HP1 : Hd (jn ((nd : Int) + (nx : Int)) (X.drop (i + 1)) (movS y.f1.f0 y.f0) (jnS y at_ sl) (dl ++ y.f1.f1) (xl ++ y.f1.f2) = joinR ((nd : Int) + (nx : Int)) X) := ⟨by rw [← HP.out, hdr.out, HOK.out rfl]⟩
    obtain ⟨hwks, _, _, hp0, hp1, _⟩ := pchk_wks HR.out
    rw [HY.out.1] at hwks hp0 hp1
    have HWK : Hd (∃ m k, WkS 16777216 y.f1.f0 p m k) := ⟨⟨_, _, hwks⟩⟩
    have ha := HA.out
    clear hwks HP HOK HR HPC HA
    by_cases hpa : p = at_
    · subst hpa
      have HJS : Hd (jnS y p sl = sl ++ y.f1.f0) := ⟨by unfold jnS; rw [if_pos HY.out.1]⟩
      have hsn : sl.length + ns ≤ 5000000000000 := by have := HLL.out; omega
      go_wp2
      clear c0 c1' c2' c3'
      go_loopg [7, 78] ns (fun q v7 v78 W => ∃ (j : Nat) (a : Int) (s' : Value), v7 = .int .i64 a ∧ v78 = .int .i64 j ∧ j + q = ns ∧ Hd (JB w w.heap.size (w.heap.size + 1) W s' d x (sl ++ y.f1.f0.take j) dl xl) ∧ Hd (W.heap[g9]? = some (.cells #[.int .i64 p, .slice A1 ns a1, .slice A2 nd a2, .slice A3 nx a3] 43 (0, 0))) ∧ Hd (movS (y.f1.f0.drop j) a = movS y.f1.f0 p) ∧ Hd (∃ m k, WkS 16777216 (y.f1.f0.drop j) a m k) ∧ Hd (-100000000 ≤ a ∧ a ≤ 100000000))
      case atStart => exact ⟨0, p, _, rfl, rfl, by omega, ⟨by rw [List.take_zero, List.append_nil]; exact HJ2.out⟩, HX2, ⟨rfl⟩, HWK, ⟨by omega⟩⟩
      case round =>
        clear HJ2 HX2 HWK ha hp0 hp1
        obtain ⟨j, a, s', rfl, rfl, hjq, HJ, HX9, HM, HWj, HAj⟩ := hrel
        rcases gk with _ | q
        · have hlt : decide ((j : Int) < (ns : Int)) = false := decide_eq_false (by omega)
          have hj : j = ns := by omega
          have HJn : Hd (JB w w.heap.size (w.heap.size + 1) wr s' d x (sl ++ y.f1.f0) dl xl) := ⟨by have := HJ.out; rwa [List.take_of_length_le (by rw [HY.out.2.1]; omega)] at this⟩
          have HMa : Hd (a = movS y.f1.f0 y.f0) := ⟨by have := HM.out; rw [List.drop_eq_nil_of_le (by rw [HY.out.2.1]; omega)] at this; rw [HY.out.1]; exact this⟩
          obtain ⟨Ad, cd, rfl⟩ := own_slice HJn.out.d
          obtain ⟨Ax, cx, rfl⟩ := own_slice HJn.out.x
          have hcd := Kd.C_below HE.out.di HJn.out.be
          have hcx := Kd.C_below HE.out.ex HJn.out.be
          rw [HY.out.2.2.1] at hcd
          rw [HY.out.2.2.2] at hcx
          have y1 := blk_cell HJn.out.b1 1
          have q2 := blk_cell HX9.out 2
          simp at y1 q2
          obtain ⟨A4, c4, w4, hrun4, hb4, hj4, hold4⟩ := HJn.out.addD (A := A2) (c := a2) hcd (by have := HLL.out; omega)
          have hx4 := hold4 g9 _ _ HX9.out HG9.out (by decide)
          have hx4' := (Below.heap_setCell w4 ⟨w.heap.size + 1, 1, none⟩ (.slice A4 (dl.length + nd) c4) g9 HG9.out).symm.trans hx4
          have v41 := blk_cell hb4 1
          have v42 := blk_cell hb4 2
          have vf1 := blk_frozen hb4 1
          have v93 := blk_cell hx4 3
          have v93' := blk_cell hx4' 3
          have v42' := blk_cell hj4.b1 2
          simp at v41 v42 v93 v93' v42'
          have hcx4 := Kd.C_below (HE.out.ex) hj4.be
          rw [HY.out.2.2.2] at hcx4
          obtain ⟨A5, c5, w5, hrun5, hb5, hj5, hold5⟩ := hj4.addX (A := A3) (c := a3) hcx4 (by have := HLL.out; omega)
          have v52 := blk_cell hb5 2
          have vf2 := blk_frozen hb5 2
          simp at v52
          have HJ5 := Hd.mk hj5
          clear hcd hcx hb4 hj4 hold4 hx4 hx4' hcx4 hb5 hj5 hold5 HJ HM HWj HX9 HJn
          go_wp2
          clear hrun4 hrun5 y1 q2 v41 v42 vf1 v93 v93' v42' v52 vf2
          go_roundg g1
          case measure => omega
          case rel =>
            refine ⟨i + 1, a, s', _, _, sl ++ y.f1.f0, dl ++ y.f1.f1, xl ++ y.f1.f2, rfl, by go_num, by omega, HJ5, ⟨?_⟩, HAj, ⟨?_⟩⟩
            · rw [← HP1.out, HJS.out, HMa.out]
            have h1 := HLL.out
            have h2 := HY.out
            simp only [List.length_append, List.length_cons, List.length_nil, h2.2.1, h2.2.2.1, h2.2.2.2]
            exact ⟨by omega, by omega, by omega⟩
        have hlt : decide ((j : Int) < (ns : Int)) = true := decide_eq_true (by omega)
        have hng : decide ((0 : Int) ≤ (j : Int)) = true := decide_eq_true (by omega)
        have hjl : j < y.f1.f0.length := by rw [HY.out.2.1]; omega
        have hcs := Kd.C_below HE.out.s HJ.out.be
        rw [HY.out.2.1] at hcs
        obtain ⟨sd, es, t0, t1, t2⟩ := at_T82 hcs (j : Int) (by omega) (by omega)
        subst es
        rw [Int.toNat_natCast] at t0 t1 t2
        have hdt := drop_rd82 y.f1.f0 j hjl
        have htk := take82 y.f1.f0 j hjl
        obtain ⟨t, ht⟩ : ∃ t, rd_T82 y.f1.f0 (j : Int) = t := ⟨_, rfl⟩
        rw [ht] at t0 t1 t2 hdt htk
        obtain ⟨f0, f1, f2⟩ := t
        simp only at t0 t1 t2
        obtain ⟨m, k', hwk⟩ := HWj.out
        rw [hdt] at hwk
        have hwk : ((0 ≤ f0 ∧ f0 ≤ 65536) ∧ (0 ≤ f1 ∧ f1 ≤ 65536) ∧ -16777216 ≤ f2 ∧ f2 ≤ 16777216) ∧ (0 ≤ a ∧ a + f0 ≤ 16777216) ∧ (f0.toNat ≤ m ∧ f1.toNat ≤ k') ∧ WkS 16777216 (y.f1.f0.drop (j + 1)) (a + f0 + f2) (m - f0.toNat) (k' - f1.toNat) := hwk
        obtain ⟨⟨⟨k0, k1⟩, _, k2, k3⟩, ⟨k4, k5⟩, _, hwk⟩ := hwk
        have HW2 : Hd (∃ m k, WkS 16777216 (y.f1.f0.drop (j + 1)) (a + (f0 + f2)) m k) := ⟨⟨_, _, by rw [← Int.add_assoc]; exact hwk⟩⟩
        have HM2 : Hd (movS (y.f1.f0.drop (j + 1)) (a + (f0 + f2)) = movS y.f1.f0 p) := ⟨by rw [← HM.out, hdt]; rfl⟩
        have HTK : Hd (sl ++ y.f1.f0.take (j + 1) = (sl ++ y.f1.f0.take j) ++ [⟨f0, f1, f2⟩]) := ⟨by rw [htk]; exact (List.append_assoc _ _ _).symm⟩
        clear hcs hdt htk ht hwk HWj HM
        obtain ⟨ls, hls⟩ : ∃ l, sl ++ y.f1.f0.take j = l := ⟨_, rfl⟩
        rw [hls] at HJ HTK
        have hlsn : ls.length ≤ 5000000000000 := by rw [← hls, List.length_append, List.length_take]; omega
        clear hls
        obtain ⟨As, cs, rfl⟩ := HJ.out.s.form rfl
        have y0 := blk_cell HJ.out.b1 0
        simp at y0
        have hlt1 := blk_lt HJ.out.b1
        have hba := ((Below.refl wr.heap.size wr).alloc (Nat.le_refl _) (.cells #[.int .i64 f0, .int .i64 f1, .int .i64 f2] 82)).alloc (by simp) (.cells #[.int .i64 f0, .int .i64 f1, .int .i64 f2] 82)
        have hbn : ((wr.alloc (.cells #[.int .i64 f0, .int .i64 f1, .int .i64 f2] 82)).alloc (.cells #[.int .i64 f0, .int .i64 f1, .int .i64 f2] 82)).heap[wr.heap.size + 1]? = some (.cells #[.int .i64 f0, .int .i64 f1, .int .i64 f2] 82) := by
          have := blk_new (wr.alloc (.cells #[.int .i64 f0, .int .i64 f1, .int .i64 f2] 82)) (.cells #[.int .i64 f0, .int .i64 f1, .int .i64 f2] 82)
          simpa using this
        obtain ⟨A', c', w3, hrun, hb3, hj3, hold⟩ := (HJ.out.below hba).pushS (t := ⟨f0, f1, f2⟩) hbn (by omega)
        have HX3 := Hd.mk (hold g9 _ _ (blk_below HX9.out hba) HG9.out (by decide))
        have HJ3 : Hd (JB w w.heap.size (w.heap.size + 1) (w3.setCell ⟨w.heap.size + 1, 0, none⟩ (.slice A' (ls.length + 1) c')) (.slice A' (ls.length + 1) c') d x (sl ++ y.f1.f0.take (j + 1)) dl xl) := ⟨by rw [HTK.out]; exact hj3⟩
        have z0 := blk_cell hb3 0
        have zf0 := blk_frozen hb3 0
        simp at z0
        clear hba hbn hj3 hold hb3 HJ HX9
        have hAj := HAj.out
        go_wp2
        clear hrun z0 zf0 y0 hlt1 t0 t1 t2
        go_roundg q
        case measure => omega
        case rel => exact ⟨j + 1, a + (f0 + f2), _, by go_num, by go_num, by omega, HJ3, HX3, HM2, HW2, ⟨by omega⟩⟩
    have hq1 : (p == at_) = false := by simpa using hpa
    have HJS : Hd (jnS y at_ sl = (sl ++ [⟨0, 0, p - at_⟩]) ++ y.f1.f0) := ⟨by unfold jnS; rw [if_neg (by rw [HY.out.1]; exact hpa), HY.out.1]⟩
    have hsn : (sl ++ [(⟨0, 0, p - at_⟩ : S82)]).length + ns ≤ 5000000000000 := by have := HLL.out; rw [List.length_append]; simp only [List.length_cons, List.length_nil]; omega
    obtain ⟨As, cs, rfl⟩ := HJ2.out.s.form rfl
    have y0 := blk_cell HJ2.out.b1 0
    simp at y0
    have hlt1 := blk_lt HJ2.out.b1
    have hlt9 := blk_lt HX2.out
    have hba := (Below.refl w2.heap.size w2).alloc (Nat.le_refl _) (.cells #[.int .i64 0, .int .i64 0, .int .i64 (p - at_)] 82)
    obtain ⟨A', c', w3, hrun, hb3, hj3, hold⟩ := (HJ2.out.below hba).pushS (t := ⟨0, 0, p - at_⟩) (blk_new w2 _) (by have := HLL.out; omega)
    have HX3 := Hd.mk (hold g9 _ _ (blk_below HX2.out hba) HG9.out (by decide))
    have HJ3 := Hd.mk hj3
    have z0 := blk_cell hb3 0
    have zf0 := blk_frozen hb3 0
    have x30 := blk_cell HX3.out 0
    have x31 := blk_cell HX3.out 1
    simp at z0 x30 x31
    have w30 := blk_cell ((Below.heap_setCell w3 ⟨w.heap.size + 1, 0, none⟩ (.slice A' (sl.length + 1) c') g9 HG9.out).symm.trans HX3.out) 0
    have w31 := blk_cell ((Below.heap_setCell w3 ⟨w.heap.size + 1, 0, none⟩ (.slice A' (sl.length + 1) c') g9 HG9.out).symm.trans HX3.out) 1
    simp at w30 w31
    clear hba hj3 hold hb3 hpa
    go_wp2
    clear hrun z0 zf0 x30 x31 w30 w31 y0 hlt1 hlt9
    clear c0 c1' c2' c3'
    go_loopg [7, 78] ns (fun q v7 v78 W => ∃ (j : Nat) (a : Int) (s' : Value), v7 = .int .i64 a ∧ v78 = .int .i64 j ∧ j + q = ns ∧ Hd (JB w w.heap.size (w.heap.size + 1) W s' d x ((sl ++ [⟨0, 0, p - at_⟩]) ++ y.f1.f0.take j) dl xl) ∧ Hd (W.heap[g9]? = some (.cells #[.int .i64 p, .slice A1 ns a1, .slice A2 nd a2, .slice A3 nx a3] 43 (0, 0))) ∧ Hd (movS (y.f1.f0.drop j) a = movS y.f1.f0 p) ∧ Hd (∃ m k, WkS 16777216 (y.f1.f0.drop j) a m k) ∧ Hd (-100000000 ≤ a ∧ a ≤ 100000000))
    case atStart => exact ⟨0, p, _, rfl, rfl, by omega, ⟨by rw [List.take_zero, List.append_nil]; exact HJ3.out⟩, HX3, ⟨rfl⟩, HWK, ⟨by omega⟩⟩
    case round =>
      clear HJ3 HX3 HWK ha hp0 hp1
      obtain ⟨j, a, s', rfl, rfl, hjq, HJ, HX9, HM, HWj, HAj⟩ := hrel
      rcases gk with _ | q
      · have hlt : decide ((j : Int) < (ns : Int)) = false := decide_eq_false (by omega)
        have hj : j = ns := by omega
        have HJn : Hd (JB w w.heap.size (w.heap.size + 1) wr s' d x ((sl ++ [⟨0, 0, p - at_⟩]) ++ y.f1.f0) dl xl) := ⟨by have := HJ.out; rwa [List.take_of_length_le (by rw [HY.out.2.1]; omega)] at this⟩
        have HMa : Hd (a = movS y.f1.f0 y.f0) := ⟨by have := HM.out; rw [List.drop_eq_nil_of_le (by rw [HY.out.2.1]; omega)] at this; rw [HY.out.1]; exact this⟩
        obtain ⟨Ad, cd, rfl⟩ := own_slice HJn.out.d
        obtain ⟨Ax, cx, rfl⟩ := own_slice HJn.out.x
        have hcd := Kd.C_below HE.out.di HJn.out.be
        have hcx := Kd.C_below HE.out.ex HJn.out.be
        rw [HY.out.2.2.1] at hcd
        rw [HY.out.2.2.2] at hcx
        have y1 := blk_cell HJn.out.b1 1
        have q2 := blk_cell HX9.out 2
        simp at y1 q2
        obtain ⟨A4, c4, w4, hrun4, hb4, hj4, hold4⟩ := HJn.out.addD (A := A2) (c := a2) hcd (by have := HLL.out; omega)
        have hx4 := hold4 g9 _ _ HX9.out HG9.out (by decide)
        have hx4' := (Below.heap_setCell w4 ⟨w.heap.size + 1, 1, none⟩ (.slice A4 (dl.length + nd) c4) g9 HG9.out).symm.trans hx4
        have v41 := blk_cell hb4 1
        have v42 := blk_cell hb4 2
        have vf1 := blk_frozen hb4 1
        have v93 := blk_cell hx4 3
        have v93' := blk_cell hx4' 3
        have v42' := blk_cell hj4.b1 2
        simp at v41 v42 v93 v93' v42'
        have hcx4 := Kd.C_below (HE.out.ex) hj4.be
        rw [HY.out.2.2.2] at hcx4
        obtain ⟨A5, c5, w5, hrun5, hb5, hj5, hold5⟩ := hj4.addX (A := A3) (c := a3) hcx4 (by have := HLL.out; omega)
        have v52 := blk_cell hb5 2
        have vf2 := blk_frozen hb5 2
        simp at v52
        have HJ5 := Hd.mk hj5
        clear hcd hcx hb4 hj4 hold4 hx4 hx4' hcx4 hb5 hj5 hold5 HJ HM HWj HX9 HJn
        go_wp2
        clear hrun4 hrun5 y1 q2 v41 v42 vf1 v93 v93' v42' v52 vf2
        go_roundg g1
        case measure => omega
        case rel =>
          refine ⟨i + 1, a, s', _, _, (sl ++ [⟨0, 0, p - at_⟩]) ++ y.f1.f0, dl ++ y.f1.f1, xl ++ y.f1.f2, rfl, by go_num, by omega, HJ5, ⟨?_⟩, HAj, ⟨?_⟩⟩
          · rw [← HP1.out, HJS.out, HMa.out]
          have h1 := HLL.out
          have h2 := HY.out
          simp only [List.length_append, List.length_cons, List.length_nil, h2.2.1, h2.2.2.1, h2.2.2.2]
          exact ⟨by omega, by omega, by omega⟩
      have hlt : decide ((j : Int) < (ns : Int)) = true := decide_eq_true (by omega)
      have hng : decide ((0 : Int) ≤ (j : Int)) = true := decide_eq_true (by omega)
      have hjl : j < y.f1.f0.length := by rw [HY.out.2.1]; omega
      have hcs := Kd.C_below HE.out.s HJ.out.be
      rw [HY.out.2.1] at hcs
      obtain ⟨sd, es, t0, t1, t2⟩ := at_T82 hcs (j : Int) (by omega) (by omega)
      subst es
      rw [Int.toNat_natCast] at t0 t1 t2
      have hdt := drop_rd82 y.f1.f0 j hjl
      have htk := take82 y.f1.f0 j hjl
      obtain ⟨t, ht⟩ : ∃ t, rd_T82 y.f1.f0 (j : Int) = t := ⟨_, rfl⟩
      rw [ht] at t0 t1 t2 hdt htk
      obtain ⟨f0, f1, f2⟩ := t
      simp only at t0 t1 t2
      obtain ⟨m, k', hwk⟩ := HWj.out
      rw [hdt] at hwk
      have hwk : ((0 ≤ f0 ∧ f0 ≤ 65536) ∧ (0 ≤ f1 ∧ f1 ≤ 65536) ∧ -16777216 ≤ f2 ∧ f2 ≤ 16777216) ∧ (0 ≤ a ∧ a + f0 ≤ 16777216) ∧ (f0.toNat ≤ m ∧ f1.toNat ≤ k') ∧ WkS 16777216 (y.f1.f0.drop (j + 1)) (a + f0 + f2) (m - f0.toNat) (k' - f1.toNat) := hwk
      obtain ⟨⟨⟨k0, k1⟩, _, k2, k3⟩, ⟨k4, k5⟩, _, hwk⟩ := hwk
      have HW2 : Hd (∃ m k, WkS 16777216 (y.f1.f0.drop (j + 1)) (a + (f0 + f2)) m k) := ⟨⟨_, _, by rw [← Int.add_assoc]; exact hwk⟩⟩
      have HM2 : Hd (movS (y.f1.f0.drop (j + 1)) (a + (f0 + f2)) = movS y.f1.f0 p) := ⟨by rw [← HM.out, hdt]; rfl⟩
      have HTK : Hd ((sl ++ [⟨0, 0, p - at_⟩]) ++ y.f1.f0.take (j + 1) = ((sl ++ [⟨0, 0, p - at_⟩]) ++ y.f1.f0.take j) ++ [⟨f0, f1, f2⟩]) := ⟨by rw [htk]; exact (List.append_assoc _ _ _).symm⟩
      clear hcs hdt htk ht hwk HWj HM
      obtain ⟨ls, hls⟩ : ∃ l, (sl ++ [⟨0, 0, p - at_⟩]) ++ y.f1.f0.take j = l := ⟨_, rfl⟩
      rw [hls] at HJ HTK
      have hlsn : ls.length ≤ 5000000000000 := by rw [← hls, List.length_append, List.length_take]; omega
      clear hls
      obtain ⟨As, cs, rfl⟩ := HJ.out.s.form rfl
      have y0 := blk_cell HJ.out.b1 0
      simp at y0
      have hlt1 := blk_lt HJ.out.b1
      have hba := ((Below.refl wr.heap.size wr).alloc (Nat.le_refl _) (.cells #[.int .i64 f0, .int .i64 f1, .int .i64 f2] 82)).alloc (by simp) (.cells #[.int .i64 f0, .int .i64 f1, .int .i64 f2] 82)
      have hbn : ((wr.alloc (.cells #[.int .i64 f0, .int .i64 f1, .int .i64 f2] 82)).alloc (.cells #[.int .i64 f0, .int .i64 f1, .int .i64 f2] 82)).heap[wr.heap.size + 1]? = some (.cells #[.int .i64 f0, .int .i64 f1, .int .i64 f2] 82) := by
        have := blk_new (wr.alloc (.cells #[.int .i64 f0, .int .i64 f1, .int .i64 f2] 82)) (.cells #[.int .i64 f0, .int .i64 f1, .int .i64 f2] 82)
        simpa using this
      obtain ⟨A', c', w3, hrun, hb3, hj3, hold⟩ := (HJ.out.below hba).pushS (t := ⟨f0, f1, f2⟩) hbn (by omega)
      have HX3 := Hd.mk (hold g9 _ _ (blk_below HX9.out hba) HG9.out (by decide))
      have HJ3 : Hd (JB w w.heap.size (w.heap.size + 1) (w3.setCell ⟨w.heap.size + 1, 0, none⟩ (.slice A' (ls.length + 1) c')) (.slice A' (ls.length + 1) c') d x ((sl ++ [⟨0, 0, p - at_⟩]) ++ y.f1.f0.take (j + 1)) dl xl) := ⟨by rw [HTK.out]; exact hj3⟩
      have z0 := blk_cell hb3 0
      have zf0 := blk_frozen hb3 0
      simp at z0
      clear hba hbn hj3 hold hb3 HJ HX9
      have hAj := HAj.out
      go_wp2
      clear hrun z0 zf0 y0 hlt1 t0 t1 t2
      go_roundg q
      case measure => omega
      case rel => exact ⟨j + 1, a + (f0 + f2), _, by go_num, by go_num, by omega, HJ3, HX3, HM2, HW2, ⟨by omega⟩⟩
end Go.Proofs.Ytinlfoblpgpikaa
