/- crc: Sum of parts; awake. -/
import Derived.Test.YtelmkcbakeccoaaTw
namespace Go.Proofs.Ytelmkcbakeccoaa
open Go.RowKit Go.Proofs.YtelmkcbakeccoaaW.PrintWords Go.Proofs.YtelmkcbakeccoaaW.PrintLast Go.Proofs.YtelmkcbakeccoaaW.PrintMore
set_option linter.unusedVariables false
set_option linter.unusedSimpArgs false
/-- A slice of slices of bytes that is read. -/
structure Ps (w : World) (A : Option Addr) (n : Nat) (l : List (List Int)) : Prop where
  len : l.length = n
  max : n ≤ 9223372036854775807
  at_ : ∀ j, j < n → ∃ ad B m d, A = some ad ∧ w.cell? (ad.add j) = some (.slice B m d) ∧ Bs w B m d (l.getD j [])
theorem Ps.below {w w' : World} {A : Option Addr} {n : Nat} {l : List (List Int)} (h : Ps w A n l) (hb : Below w.heap.size w w') : Ps w' A n l := by
  refine ⟨h.len, h.max, fun j hj => ?_⟩
  obtain ⟨ad, B, m, d, e, hc, hB⟩ := h.at_ j hj
  exact ⟨ad, B, m, d, e, (hb.cell (World.block_lt_of_cell? w _ hc)).trans hc, hB.below hb⟩
def runL (r : R) (l : List (List Int)) : R := l.foldl runB r
theorem runL_snoc (l : List (List Int)) (r : R) (j : Nat) (h : j < l.length) : runL r (l.take (j + 1)) = runB (runL r (l.take j)) (l.getD j []) := by
  rw [List.take_add_one, List.getD_eq_getElem?_getD, List.getElem?_eq_getElem h]
  simp only [runL, List.foldl_append, Option.toList_some, List.foldl_cons, List.foldl_nil, Option.getD_some]
theorem runL_flat : ∀ (l : List (List Int)) (r : R), runL r l = runB r l.flatten
  | [], _ => rfl
  | x :: xs, r => by
    rw [List.flatten_cons, runB_append, ← runL_flat xs]
    rfl
def sumOf (l : List (List Int)) : R := ~~~ runL (BitVec.allOnes 32) l
set_option maxHeartbeats 1000000 in
theorem sum_calls (A : Option Addr) (n c : Nat) (l : List (List Int)) (w : World) (hP : Ps w A n l) (hc : n ≤ c) :
    Calls Try.prog 22 #[.slice A n c] w fun e w' => e = .returned (.int .u32 (W (sumOf l))) ∧ Below w.heap.size w w' := by
  have hm := hP.max
  have HP := Hd.mk hP
  clear hP
  go_enter Try.func22, Try.ntmps22
  go_wp2
  go_loopg [3, 8] n (fun k u y w'' => Hd (Below w.heap.size w w'') ∧ ∃ j : Nat, y = .int .i64 j ∧ j + k = n ∧ u = .int .u32 (W (runL (BitVec.allOnes 32) (l.take j))))
  case atStart => exact ⟨⟨Below.refl _ _⟩, 0, rfl, by omega, by rw [List.take_zero, show W (runL (BitVec.allOnes 32) []) = 4294967295 by decide]⟩
  case round =>
    obtain ⟨HW, j, rfl, hj, rfl⟩ := hrel
    rcases Nat.eq_zero_or_pos gk with rfl | hp
    · obtain rfl : j = n := by omega
      have HS := Hd.mk (show ~~~ runL (BitVec.allOnes 32) (l.take j) = sumOf l by rw [List.take_of_length_le (by have := HP.out.len; omega)]; rfl)
      obtain ⟨q, eq⟩ : ∃ q, runL (BitVec.allOnes 32) (l.take j) = q := ⟨_, rfl⟩
      rw [eq] at HS ⊢
      clear eq
      go_wp2
      go_ret
      refine ⟨?_, HW.out⟩
      rw [W_not, HS.out]
      rfl
    · obtain ⟨k, rfl⟩ : ∃ k, gk = k + 1 := ⟨gk - 1, by omega⟩
      obtain ⟨ad, B, m, d, hA, hcell, hB⟩ := (HP.out.below HW.out).at_ j (by omega)
      subst hA
      have HB := Hd.mk hB
      have HS := Hd.mk (runL_snoc l (BitVec.allOnes 32) j (by have := HP.out.len; omega))
      obtain ⟨q, eq⟩ : ∃ q, runL (BitVec.allOnes 32) (l.take j) = q := ⟨_, rfl⟩
      rw [eq] at HS ⊢
      clear eq hB
      go_wp2_with fail
      go_at_call 36
      refine (through_calls _ _ _ _ _ _ HB.out.C HB.out.hc HB.out.hr).mono ?_
      rintro e w1 ⟨rfl, h1⟩
      have H1 := Hd.mk h1
      clear h1
      go_wp2
      go_roundg k
      case measure => omega
      case rel => exact ⟨⟨below_step HW.out H1.out⟩, j + 1, by go_num, by omega, by rw [HS.out, List.getD_eq_getElem?_getD]⟩
theorem cell_of_slot {w : World} {g : Nat} {cs : Array Value} {t : TypeId} (h : w.heap[g]? = some (.cells cs t)) (j : Nat) : w.cell? ((⟨g, 0, none⟩ : Addr).add j) = cs[j]? := by
  rw [add_plain, blk_cell h]
/-- one part alone, laid into a new block -/
theorem Ps.one {w : World} {B : Option Addr} {m d : Nat} {xs : List Int} (t : TypeId) (h : Bs w B m d xs) : Ps (w.alloc (.cells #[.slice B m d] t)) (some ⟨w.heap.size, 0, none⟩) 1 [xs] := by
  refine ⟨rfl, by omega, fun j hj => ?_⟩
  obtain rfl : j = 0 := by omega
  exact ⟨_, B, m, d, rfl, by rw [cell_of_slot (blk_new w _)]; rfl, h.below ((Below.refl _ _).alloc (Nat.le_refl _) _)⟩
theorem Ps.two {w : World} {B B' : Option Addr} {m d m' d' : Nat} {xs ys : List Int} (t : TypeId) (h : Bs w B m d xs) (h' : Bs w B' m' d' ys) : Ps (w.alloc (.cells #[.slice B m d, .slice B' m' d'] t)) (some ⟨w.heap.size, 0, none⟩) 2 [xs, ys] := by
  refine ⟨rfl, by omega, fun j hj => ?_⟩
  rcases (by omega : j = 0 ∨ j = 1) with rfl | rfl
  · exact ⟨_, B, m, d, rfl, by rw [cell_of_slot (blk_new w _)]; rfl, h.below ((Below.refl _ _).alloc (Nat.le_refl _) _)⟩
  · exact ⟨_, B', m', d', rfl, by rw [cell_of_slot (blk_new w _)]; rfl, h'.below ((Below.refl _ _).alloc (Nat.le_refl _) _)⟩
theorem Ps.none {w : World} : Ps w none 0 [] := ⟨rfl, by omega, fun j hj => by omega⟩
def nine : List Int := [49, 50, 51, 52, 53, 54, 55, 56, 57]
theorem sum_nine : W (sumOf [nine]) = 3421780262 := by decide +kernel
theorem sum_none : W (sumOf []) = 0 := by decide
theorem conv_lit (w : World) (cs : Array Value) (n c : Nat) : (convert 23 23 (.slice (some ⟨w.heap.size, 0, none⟩) n c)).run Try.prog (w.alloc (.cells cs 5)) = .ok (.slice (some ⟨w.heap.size, 0, none⟩) n c) (w.alloc (.cells cs 5 (cs.size, cs.size + 1))) := by
  have hsh : (w.alloc (.cells cs 5)).shape? w.heap.size = some (5, cs.size) := by
    unfold World.shape?
    rw [blk_new w _]
  have hfr : (w.alloc (.cells cs 5)).freeze ⟨w.heap.size, cs.size, none⟩ 1 = w.alloc (.cells cs 5 (cs.size, cs.size + 1)) := by
    have hm : ∀ (a : Array Obj) (x : Obj) (f : Obj → Obj), (a.push x).modify a.size f = a.push (f x) := by
      intro a x f
      apply Array.ext
      · simp
      · intro i h1 h2
        simp only [Array.getElem_modify, Array.getElem_push]
        by_cases h : a.size = i
        · subst h
          simp
        · have hi : i < a.size := by simp at h1; omega
          simp [h, hi]
    unfold World.freeze
    rw [if_neg (by decide)]
    show ({ w.alloc (.cells cs 5) with heap := (w.heap.push (.cells cs 5)).modify w.heap.size _ } : World) = _
    rw [hm]
    rfl
  simp [convert, run_underlying Try.underlying23, run_underlying Try.underlying5, markStringish, hsh]
  rw [hfr]
theorem bs_lit_fr (w : World) (l : List Int) (n : Nat) (t : TypeId) (fr : Nat × Nat) (hl : l.length = n) (hr : ∀ x ∈ l, 0 ≤ x ∧ x ≤ 255) (hn : n ≤ 140737488351232) : Bs (w.alloc (.cells (nums .u8 l).toArray t fr)) (some ⟨w.heap.size, 0, none⟩) n n l := by
  subst hl
  refine ⟨?_, Nat.le_refl _, hr⟩
  refine Kd.C_of_reads (enc := Value.int .u8) (d := (0 : Int)) (h1 := fun _ => rfl) ⟨rfl, by omega, fun _ => ⟨_, rfl, fun j hj => ?_⟩⟩
  rw [add_plain, cell_of_row _ _ _ _ _ fr (blk_new w _)]
  simp [nums, hj]
set_option maxHeartbeats 1000000 in
theorem awake_calls (w : World) : Calls Try.prog 21 #[] w fun e w' => e = .returned (.bool true) ∧ Below w.heap.size w w' := by
  have HB := Hd.mk (bs_lit_fr w nine 9 5 (9, 10) rfl (by decide) (by omega))
  have HP := Hd.mk (Ps.one 23 HB.out)
  have HW := Hd.mk (((Below.refl w.heap.size w).alloc (Nat.le_refl _) (.cells (nums .u8 nine).toArray 5 (9, 10))).alloc (by simp) (.cells #[.slice (some ⟨w.heap.size, 0, none⟩) 9 9] 23))
  have hcv := conv_lit w #[.int .u8 49, .int .u8 50, .int .u8 51, .int .u8 52, .int .u8 53, .int .u8 54, .int .u8 55, .int .u8 56, .int .u8 57] 9 9
  have es : #[Value.int .u8 49, Value.int .u8 50, Value.int .u8 51, Value.int .u8 52, Value.int .u8 53, Value.int .u8 54, Value.int .u8 55, Value.int .u8 56, Value.int .u8 57].size = 9 := rfl
  rw [es] at hcv
  obtain ⟨wf, ef⟩ : ∃ wf, w.alloc (.cells #[.int .u8 49, .int .u8 50, .int .u8 51, .int .u8 52, .int .u8 53, .int .u8 54, .int .u8 55, .int .u8 56, .int .u8 57] 5 (9, 9 + 1)) = wf := ⟨_, rfl⟩
  have hsz : wf.heap.size = w.heap.size + 1 := by rw [← ef]; simp
  change Hd (Ps ((w.alloc (.cells #[.int .u8 49, .int .u8 50, .int .u8 51, .int .u8 52, .int .u8 53, .int .u8 54, .int .u8 55, .int .u8 56, .int .u8 57] 5 (9, 9 + 1))).alloc (.cells #[.slice (some ⟨w.heap.size, 0, none⟩) 9 9] 23)) (some ⟨(w.alloc (.cells #[.int .u8 49, .int .u8 50, .int .u8 51, .int .u8 52, .int .u8 53, .int .u8 54, .int .u8 55, .int .u8 56, .int .u8 57] 5 (9, 9 + 1))).heap.size, 0, none⟩) 1 [nine]) at HP
  change Hd (Below _ w ((w.alloc (.cells #[.int .u8 49, .int .u8 50, .int .u8 51, .int .u8 52, .int .u8 53, .int .u8 54, .int .u8 55, .int .u8 56, .int .u8 57] 5 (9, 9 + 1))).alloc (.cells #[.slice (some ⟨w.heap.size, 0, none⟩) 9 9] 23))) at HW
  rw [ef] at hcv HP HW
  clear es ef HB
  have HS := Hd.mk sum_nine
  have HS0 := Hd.mk (fun w0 : World => (sum_none ▸ sum_calls none 0 0 [] w0 Ps.none (Nat.le_refl _) : Calls Try.prog 22 #[.slice none 0 0] w0 fun e w' => e = .returned (.int .u32 0) ∧ Below w0.heap.size w0 w'))
  obtain ⟨x9, e9⟩ : ∃ x, W (sumOf [nine]) = x := ⟨_, rfl⟩
  rw [e9] at HS
  have HSC := Hd.mk (fun w0 hp => e9 ▸ sum_calls (some ⟨wf.heap.size, 0, none⟩) 1 1 [nine] w0 hp (Nat.le_refl _))
  clear e9
  obtain ⟨l9, el⟩ : ∃ l, [nine] = l := ⟨_, rfl⟩
  rw [el] at HP HSC
  rw [hsz] at HSC
  have HP' := HP.out
  rw [hsz] at HP'
  have HP'' := Hd.mk HP'
  clear el HP HP'
  go_enter Try.func21, Try.ntmps21
  go_wp2_with fail
  go_at_call 22
  refine (HSC.out _ HP''.out).mono ?_
  rw [HS.out]
  rintro e w1 ⟨rfl, h1⟩
  have H1 := Hd.mk h1
  clear h1
  go_wp2_with fail
  go_at_call 22
  refine (HS0.out _).mono ?_
  rintro e w2 ⟨rfl, h2⟩
  have H2 := Hd.mk h2
  clear h2
  go_wp2
  go_ret
  exact ⟨rfl, below_step (below_step HW.out H1.out) H2.out⟩
end Go.Proofs.Ytelmkcbakeccoaa
