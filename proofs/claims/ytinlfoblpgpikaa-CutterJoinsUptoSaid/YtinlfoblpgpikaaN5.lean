/- the reference's Same, Lend, Kept. -/
import Derived.Test.YtinlfoblpgpikaaN4
namespace Go.Proofs.Ytinlfoblpgpikaa
open Go.RowKit Go.Proofs.YtinlfoblpgpikaaW.PrintWords Go.Proofs.YtinlfoblpgpikaaW.PrintLast Go.Proofs.YtinlfoblpgpikaaW.PrintMore
set_option linter.unusedVariables false
set_option linter.unusedSimpArgs false

/-- A slice of bytes that is read. -/
structure Bs (w : World) (A : Option Addr) (n c : Nat) (xs : List Int) : Prop where
  C : (Kd.int .u8).C w A n xs
  hc : n ≤ c
  hr : ∀ x ∈ xs, 0 ≤ x ∧ x ≤ 255
theorem Bs.below {w w' : World} {A : Option Addr} {n c : Nat} {xs : List Int} (h : Bs w A n c xs) (hb : Below w.heap.size w w') : Bs w' A n c xs := ⟨Kd.C_below h.C hb, h.hc, h.hr⟩
theorem Bs.len {w : World} {A : Option Addr} {n c : Nat} {xs : List Int} (h : Bs w A n c xs) : xs.length = n := h.C.1
theorem OB.bs {w : World} {base : Nat} {v : Value} {xs : List Int} (h : OB w base v xs) (hr : ∀ x ∈ xs, 0 ≤ x ∧ x ≤ 255) : ∃ A c, v = .slice A xs.length c ∧ Bs w A xs.length c xs := by
  obtain ⟨A, c, e, h1, h2⟩ := own_C h
  exact ⟨A, c, e, h2, h1, hr⟩
theorem Bs.pre {w : World} {A : Option Addr} {n c : Nat} {xs : List Int} (h : Bs w A n c xs) (m : Nat) (hm : m ≤ n) : Bs w A m c (xs.take m) :=
  ⟨C_pre h.C m hm, Nat.le_trans hm h.hc, mem_take h.hr m⟩

theorem strOf_inj : ∀ {xs ys : List Int}, (∀ x ∈ xs, 0 ≤ x ∧ x ≤ 255) → (∀ x ∈ ys, 0 ≤ x ∧ x ≤ 255) → xs.map (fun n => UInt8.ofNat n.toNat) = ys.map (fun n => UInt8.ofNat n.toNat) → xs = ys
  | [], [], _, _, _ => rfl
  | [], y :: ys, _, _, h => by simp at h
  | x :: xs, [], _, _, h => by simp at h
  | x :: xs, y :: ys, hx, hy, h => by
    simp only [List.map_cons, List.cons.injEq] at h
    have h1 := hx x List.mem_cons_self
    have h2 := hy y List.mem_cons_self
    have e := congrArg UInt8.toNat h.1
    simp only [UInt8.toNat_ofNat'] at e
    rw [strOf_inj (fun z hz => hx z (List.mem_cons_of_mem _ hz)) (fun z hz => hy z (List.mem_cons_of_mem _ hz)) h.2]
    congr 1
    omega
theorem strOf_eq {xs ys : List Int} (hx : ∀ x ∈ xs, 0 ≤ x ∧ x ≤ 255) (hy : ∀ x ∈ ys, 0 ≤ x ∧ x ≤ 255) : ((strOfNums xs).toList == (strOfNums ys).toList) = decide (xs = ys) := by
  rw [Bool.eq_iff_iff, beq_iff_eq, decide_eq_true_iff]
  constructor
  · intro h
    have h' : (strOfNums xs).data.toList = (strOfNums ys).data.toList := by
      have e : ∀ s : ByteArray, s.toList = s.data.toList := ByteArray.toList_eq
      rw [← e, ← e, h]
    rw [strOfNums_data, strOfNums_data] at h'
    exact strOf_inj hx hy h'
  · rintro rfl
    rfl

set_option maxHeartbeats 400000 in
theorem same_calls (A : Option Addr) (n c : Nat) (xs : List Int) (B : Option Addr) (m d : Nat) (ys : List Int) (w : World) (hx : Bs w A n c xs) (hy : Bs w B m d ys) :
    Calls Try.prog 25 #[.slice A n c, .slice B m d] w fun e w' => e = .returned (.bool (decide (xs = ys))) ∧ w' = w := by
  have hcv3 := Kd.C_string (P := Try.prog) (A := A) (c := c) Try.underlying24 Try.underlying5 Try.underlying9 hx.C
  have hcv4 := Kd.C_string (P := Try.prog) (A := B) (c := d) Try.underlying24 Try.underlying5 Try.underlying9 hy.C
  have HE := Hd.mk (strOf_eq hx.hr hy.hr)
  clear hx hy
  go_enter Try.func25, Try.ntmps25
  go_wp2
  go_ret
  exact ⟨by rw [← HE.out]; exact rfl, rfl⟩

theorem Below.drewN_ {B : Nat} {w W : World} (h : Below B w W) (n : Nat) : Below B w (W.drewN n) := pw_below_drewN h n
def tail5 : List Int := [171, 172, 173, 174, 175]
set_option maxHeartbeats 400000 in
theorem lend_calls (A : Option Addr) (n c : Nat) (xs : List Int) (w : World) (hx : Bs w A n c xs) (hn : n ≤ 140737488351232) :
    Calls Try.prog 22 #[.slice A n c] w fun e w' => ∃ g d, e = .returned (.tuple #[.slice (some ⟨g, 0, none⟩) (n + 5) d, .slice (some ⟨g, 0, none⟩) n d]) ∧ OB w' w.heap.size (.slice (some ⟨g, 0, none⟩) (n + 5) d) (xs ++ tail5) ∧ Below w.heap.size w w' := by
  have HX := Hd.mk hx
  have hxl := hx.len
  clear hx
  go_enter Try.func22, Try.ntmps22
  go_wp2_with (first
    | (at_builtin; refine wpList_app (v := .slice (some ⟨w.heap.size, 0, none⟩) 0 0) (n := 0) (xs := []) (m := n) rfl (.tmp 5) (.tmp 6) _ rfl w.heap.size eltB rfl rfl (World.ownsRow_lit w #[] 0 (Nat.le_refl _) (Nat.zero_le _) rfl) (Src.of_C (Kd.C_below HX.out.C ((Below.refl _ _).alloc (Nat.le_refl _) _))) (by omega) (by simp) ?_; intro v1 w1 h1 h2 h3 _)
    | (at_builtin; refine wpList_app (v := v1) (n := 0 + n) (xs := [] ++ nums .u8 xs) (m := 5) (news := nums .u8 tail5) rfl (.tmp 7) (.tmp 8) _ rfl w.heap.size eltB rfl rfl (h1.out.alloc _) (Src.lit _ (nums .u8 tail5) _ 5 rfl (nums_one _ _)) (by omega) (by have := h2.out.size; simp at this ⊢; omega) ?_; intro v2 w2 h4 h5 h6 _))
  have h7 := h4.out
  simp only [Nat.zero_add, List.nil_append] at h7
  obtain ⟨g, cap, rfl, hg1, hg2⟩ := h7.form (by omega)
  have hcap := own_cap h7
  have H7 := Hd.mk h7
  clear h7
  go_quiet (fail)
  go_wp2
  go_ret2
  refine ⟨g, cap, rfl, ?_, ?_⟩
  · have := H7.out
    rw [← hxl] at this ⊢
    exact OB.snoc this rfl
  · have a1 : Below w.heap.size w w1 := ((Below.refl _ _).alloc (Nat.le_refl _) _).grown h2.out (by simp) (fun k hk => by simp [Value.ownBlock] at hk; omega)
    exact Below.drewN_ ((a1.alloc a1.size _).grown h5.out (by have := a1.size; simp; omega) (own_base h1.out)) _

theorem kept_range {xs : List Int} (h : ∀ x ∈ xs, 0 ≤ x ∧ x ≤ 255) : ∀ x ∈ xs ++ tail5, 0 ≤ x ∧ x ≤ 255 := by
  intro x hx
  rcases List.mem_append.1 hx with hx | hx
  · exact h x hx
  · simp [tail5] at hx
    omega
theorem lent_bs {w0 w : World} {base : Nat} {g n d q : Nat} {B : Option Addr} {xs : List Int} (h : OB w base (.slice (some ⟨g, 0, none⟩) (n + 5) d) (xs ++ tail5)) (hx : Bs w0 B n q xs) : Bs w (some ⟨g, 0, none⟩) (n + 5) d (xs ++ tail5) := by
  obtain ⟨A, c, e, hb⟩ := OB.bs h (kept_range hx.hr)
  have hl : (xs ++ tail5).length = n + 5 := by rw [List.length_append, hx.len]; rfl
  rw [hl] at e hb
  cases e
  exact hb
set_option maxHeartbeats 400000 in
theorem kept_calls (A : Option Addr) (n c : Nat) (ys : List Int) (B : Option Addr) (m d : Nat) (xs : List Int) (w : World) (hy : Bs w A n c ys) (hx : Bs w B m d xs) (hm : m ≤ 140737488351232) :
    Calls Try.prog 26 #[.slice A n c, .slice B m d] w fun e w' => e = .returned (.bool (decide (ys = xs ++ tail5))) ∧ Below w.heap.size w w' := by
  have HX := Hd.mk hx
  have HY := Hd.mk hy
  clear hx hy
  go_enter Try.func26, Try.ntmps26
  go_wp2_with (first
    | (go_at_call 22; refine (lend_calls B m d xs _ HX.out hm).mono ?_; rintro e w' ⟨g, q, rfl, h1, h2⟩; have H1 := Hd.mk h1; have H2 := Hd.mk h2; clear h1 h2)
    | (go_at_call 25; refine (same_calls A n c ys (some ⟨g, 0, none⟩) (m + 5) q (xs ++ tail5) _ (HY.out.below H2.out) (lent_bs H1.out HX.out)).mono ?_; rintro e w' ⟨rfl, rfl⟩))
  go_ret
  exact ⟨rfl, H2.out⟩
end Go.Proofs.Ytinlfoblpgpikaa
