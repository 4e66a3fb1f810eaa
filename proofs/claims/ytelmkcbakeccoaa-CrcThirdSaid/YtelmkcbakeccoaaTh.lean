/- crc: the third degree's trinomial; the walk of CrcThird. -/
import Derived.Test.YtelmkcbakeccoaaRn
import Derived.Laws.CopyOwn
namespace Go.Proofs.Ytelmkcbakeccoaa
open Go.RowKit Go.Proofs.YtelmkcbakeccoaaW.PrintWords Go.Proofs.YtelmkcbakeccoaaW.PrintLast Go.Proofs.YtelmkcbakeccoaaW.PrintMore
set_option linter.unusedVariables false
set_option linter.unusedSimpArgs false
theorem x_dbl {v u : R} (k : Nat) (h : X k = v) (hm : mul v v = u) : X (2 * k) = u := by rw [Nat.two_mul, ← X_add, h, hm]
theorem x_dbl1 {v u : R} (k : Nat) (h : X k = v) (hm : S (mul v v) = u) : X (2 * k + 1) = u := by
  have := x_dbl k h rfl
  rw [X, Sn_succ]
  rw [X] at this
  rw [this, hm]
theorem xa_0 : X 44 = 0xc8d98a08#32 := by decide +kernel
theorem xa_1 : X 89 = 0x299dc2ed#32 := x_dbl1 44 xa_0 (by decide +kernel)
theorem xa_2 : X 179 = 0x13423b0a#32 := x_dbl1 89 xa_1 (by decide +kernel)
theorem xa_3 : X 358 = 0x0b5e2703#32 := x_dbl 179 xa_2 (by decide +kernel)
theorem xa_4 : X 716 = 0x0e8786d6#32 := x_dbl 358 xa_3 (by decide +kernel)
theorem xa_5 : X 1432 = 0x0f37a37f#32 := x_dbl 716 xa_4 (by decide +kernel)
theorem xa_6 : X 2864 = 0x0e2ad3e5#32 := x_dbl 1432 xa_5 (by decide +kernel)
theorem xa_7 : X 5729 = 0xe25f27f5#32 := x_dbl1 2864 xa_6 (by decide +kernel)
theorem xa_8 : X 11458 = 0x176cd9b3#32 := x_dbl 5729 xa_7 (by decide +kernel)
theorem xa_9 : X 22917 = 0xb594b46f#32 := x_dbl1 11458 xa_8 (by decide +kernel)
theorem xa_10 : X 45835 = 0xee991262#32 := x_dbl1 22917 xa_9 (by decide +kernel)
theorem xa_11 : X 91671 = 0xd3722828#32 := x_dbl1 45835 xa_10 (by decide +kernel)
theorem xb_0 : X 40 = 0x3b83984b#32 := by decide +kernel
theorem xb_1 : X 81 = 0x440b7579#32 := x_dbl1 40 xb_0 (by decide +kernel)
theorem xb_2 : X 162 = 0x2ea332fa#32 := x_dbl 81 xb_1 (by decide +kernel)
theorem xb_3 : X 325 = 0x6e5356bf#32 := x_dbl1 162 xb_2 (by decide +kernel)
theorem xb_4 : X 651 = 0xdac85619#32 := x_dbl1 325 xb_3 (by decide +kernel)
theorem xb_5 : X 1303 = 0x3730f288#32 := x_dbl1 651 xb_4 (by decide +kernel)
theorem xb_6 : X 2606 = 0xf89c6745#32 := x_dbl 1303 xb_5 (by decide +kernel)
theorem xb_7 : X 5213 = 0x8cace0b3#32 := x_dbl1 2606 xb_6 (by decide +kernel)
theorem xb_8 : X 10427 = 0x6dd96ea4#32 := x_dbl1 5213 xb_7 (by decide +kernel)
theorem xb_9 : X 20855 = 0xf7d66fef#32 := x_dbl1 10427 xb_8 (by decide +kernel)
theorem xb_10 : X 41710 = 0x3ecaab08#32 := x_dbl 20855 xb_9 (by decide +kernel)
theorem x_c : X 32 = 0xedb88320#32 := by decide +kernel
def posn : Nat → Nat
  | 0 => 0
  | 1 => 49961
  | _ => 91639
def turns : Nat → R
  | 0 => 0#32
  | j + 1 => turns j ^^^ X (31 + 8 * 11455 - posn j)
theorem turns3 : turns 3 = 0#32 := by
  show ((0#32 ^^^ X 91671) ^^^ X 41710) ^^^ X 32 = 0#32
  rw [xa_11, xb_10, x_c]
  decide
theorem bs_row {w : World} {g : Nat} {l : List Int} {n : Nat} {t : TypeId} {fr : Nat × Nat} (h : w.heap[g]? = some (.cells (nums .u8 l).toArray t fr)) (hl : l.length = n) (hr : ∀ x ∈ l, 0 ≤ x ∧ x ≤ 255) (hn : n ≤ 140737488351232) : Bs w (some ⟨g, 0, none⟩) n n l := by
  subst hl
  refine ⟨?_, Nat.le_refl _, hr⟩
  refine Kd.C_of_reads (enc := Value.int .u8) (d := (0 : Int)) (h1 := fun _ => rfl) ⟨rfl, by omega, fun _ => ⟨_, rfl, fun j hj => ?_⟩⟩
  rw [add_plain, cell_of_row _ _ _ _ _ fr h]
  simp [nums, hj]
theorem wpList_makeB0 {w : World} {ops : Array Oper} {rest : List Oper} {o : Oper} {a : Act} {Q : Exit → Act → World → Prop} (hg : o.guard = none) (l c : Operand) (hop : o.op = Op.makeSlice 23 l c)
    (n : Nat) (hl : a.eval l = .int .i64 n) (hc : a.eval c = .int .i64 n) (hn : n ≤ 140737488351232) (hp : 0 < n)
    (h : ∀ w', Hd (w'.heap[w.heap.size]? = some (.cells (nums .u8 (List.replicate n 0)).toArray 5 (0, 0))) → Hd (Below w.heap.size w w') → wpList Try.prog ops Q rest (a.put o.dst (.slice (some ⟨w.heap.size, 0, none⟩) n n)) w') :
    wpList Try.prog ops Q (o :: rest) a w := by
  refine wpList_makeB hg l c hop n hl hc hn ?_
  intro w' h1 h2 h3
  refine h w' ⟨?_⟩ h3
  have hO := h1.out
  rw [OB, List.length_replicate] at hO
  rcases hO.2 with ⟨_, h0⟩ | ⟨g, cap, cur, hv, hb, hgc, _, _, hs, ht⟩
  · omega
  · cases hv
    rw [hgc]
    have : cur.toList = nums .u8 (List.replicate n 0) := by
      rw [← ht, List.take_of_length_le (by simp [hs])]
    rw [← this]
theorem wpList_copyB {w : World} {ops : Array Oper} {rest : List Oper} {o : Oper} {a : Act} {Q : Exit → Act → World → Prop} (hgd : o.guard = none) (d s : Operand)
    (ho : o.op = .call { callee := .builtin .copy, args := #[d, s], argTypes := #[23, 23] }) (n g : Nat) {A : Option Addr} {m c : Nat} {xs : List Int}
    (hd : a.eval d = .slice (some ⟨g, 0, none⟩) n n) (hs : a.eval s = .slice A m c) (hB : Bs w A m c xs) (hg : w.heap[g]? = some (.cells (nums .u8 (List.replicate n 0)).toArray 5 (0, 0))) (hn : n ≤ 140737488351232)
    (B : Nat) (w0 : World) (hb : Below B w0 w) (hBg : B ≤ g)
    (h : ∀ w' ys, Hd (Bs w' (some ⟨g, 0, none⟩) n n ys) → Hd (Below B w0 w') → wpList Try.prog ops Q rest (a.put o.dst (goInt (Nat.min m n))) w') :
    wpList Try.prog ops Q (o :: rest) a w := by
  obtain ⟨q, hq⟩ : ∃ q, Nat.min m n = q := ⟨_, rfl⟩
  have hqm : q ≤ m := hq ▸ Nat.min_le_left m n
  have hqn : q ≤ n := hq ▸ Nat.min_le_right m n
  rw [hq] at h
  have hlen : (nums .u8 (xs.take q)).length = q := by
    have := hB.len
    simp [nums]
    omega
  have hsz : (Try.prog.info? 5).map (·.size) = some 1 := by
    obtain ⟨i0, hi, hz0, hz1, hz2⟩ := info_parts eltB.hi
    rw [hi]
    simp [hz1]
  refine wpList_copy_splice hgd d s _ _ ho 5 Try.underlying23 hsz _ _ _ _ _ _ hd hs g 0 (nums .u8 (List.replicate n 0)) 5 hg (nums .u8 (xs.take q)) (hlen.trans hq.symm) ?_ (by rw [hlen]; simp [nums]; exact hqn) (nums_one _ _) B w0 hb hBg ?_
  · intro h0
    rw [hlen] at h0
    obtain ⟨ad, hA, _⟩ := at_byte hB.C 0 (by omega)
    refine ⟨rfl, ad, hA, fun j v hv => ?_⟩
    have hj : j < q := by
      rw [← hlen]
      exact (List.getElem?_eq_some_iff.1 hv).1
    obtain ⟨ad', hA', hc⟩ := at_byte hB.C j (by omega)
    rw [hA] at hA'
    cases hA'
    rw [hc]
    have hl := hB.len
    have hjm : j < xs.length := by omega
    simp [nums, List.getElem?_take, hj, hjm] at hv
    rw [← hv]
    simp [gb, hjm]
  · intro w' h1 h2
    have h1' : w'.heap[g]? = some (.cells (nums .u8 (splice (List.replicate n 0) 0 (xs.take q))).toArray 5 (0, 0)) := by
      have e : splice (nums .u8 (List.replicate n 0)) 0 (nums .u8 (xs.take q)) = nums .u8 (splice (List.replicate n 0) 0 (xs.take q)) := by
        simp [splice, nums, List.map_take, List.map_drop]
      rw [← e]
      exact h1
    have hl2 : (splice (List.replicate n (0 : Int)) 0 (xs.take q)).length = n := by
      rw [length_splice _ _ _ (by simp; omega)]
      simp
    have hr2 : ∀ x ∈ splice (List.replicate n (0 : Int)) 0 (xs.take q), 0 ≤ x ∧ x ≤ 255 := by
      intro x hx
      simp only [splice, List.take_zero, List.nil_append, List.mem_append] at hx
      rcases hx with hx | hx
      · exact hB.hr x (List.mem_of_mem_take hx)
      · exact zeros_mem n x (List.mem_of_mem_drop hx)
    have hr3 := h w' _ ⟨bs_row h1' hl2 hr2 hn⟩ ⟨h2⟩
    rw [hlen]
    exact hr3
end Go.Proofs.Ytelmkcbakeccoaa
