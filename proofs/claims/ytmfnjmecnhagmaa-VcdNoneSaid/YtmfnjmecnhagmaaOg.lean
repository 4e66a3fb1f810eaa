/- vcd: origins, of the example. -/
import Derived.Test.YtmfnjmecnhagmaaEc
namespace Go.Proofs.Ytmfnjmecnhagmaa
open Go.RowKit Go.ChangeShapes Go.WideShapes Go.Shelf Go.Maps Go.Proofs.YtmfnjmecnhagmaaW.PrintWords Go.Proofs.YtmfnjmecnhagmaaW.PrintLast Go.Proofs.YtmfnjmecnhagmaaW.PrintMore Go.Proofs.Ytmfnjmecnhagmaa.Pr
set_option linter.unusedVariables false
set_option linter.unusedSimpArgs false
def cells149 (l : List S149) : List Value := l.flatMap fun o => [.int .i64 o.f0, .int .u8 o.f1]
theorem cells149_at : ∀ (l : List S149) (j : Nat) (p : S149), l[j]? = some p → ∀ i u, ([.int .i64 p.f0, .int .u8 p.f1] : List Value)[i]? = some u → (cells149 l)[j * 2 + i]? = some u
  | [], _, _, h, _, _, _ => by cases h
  | o :: l, 0, p, h, i, u, hu => by
    obtain rfl : o = p := by simpa using h
    have hi : i < 2 := by simpa using (List.getElem?_eq_some_iff.1 hu).1
    have e : cells149 (o :: l) = [.int .i64 o.f0, .int .u8 o.f1] ++ cells149 l := rfl
    rw [e, Nat.zero_mul, Nat.zero_add, List.getElem?_append_left (by simpa using hi)]
    exact hu
  | o :: l, j + 1, p, h, i, u, hu => by
    have e : cells149 (o :: l) = [.int .i64 o.f0, .int .u8 o.f1] ++ cells149 l := rfl
    rw [e, List.getElem?_append_right (by simp; omega)]
    have := cells149_at l j p (by simpa using h) i u hu
    rw [show (j + 1) * 2 + i - ([.int .i64 o.f0, .int .u8 o.f1] : List Value).length = j * 2 + i by simp; omega]
    exact this
def OO (w : World) (base : Nat) (v : Value) (l : List S149) : Prop := w.ownsRow base 149 2 v l.length (cells149 l)
theorem OO.C {W : World} {b n c : Nat} {A : Option Addr} {l : List S149} (h : OO W b (.slice A n c) l) (hl : l.length = n) : Kd.C k149 W A n l ∧ n ≤ c := by
  subst hl
  refine ⟨?_, own_cap' h⟩
  have h' : W.ownsRow b 149 2 (.slice A l.length c) l.length (cells149 l) := h
  rcases h'.2 with ⟨e1, e2⟩ | ⟨g, cap, cur, e1, _, _, h1, h2, _⟩
  · have : l = [] := List.eq_nil_of_length_eq_zero e2
    subst this
    exact ⟨rfl, by simp, fun h => by simp at h⟩
  · cases e1
    have hcs := h'.cells (g := g) rfl
    refine ⟨rfl, by simp only [maxLen] at h2; omega, fun _ => ⟨_, rfl, fun j p hj => ⟨[.int .i64 p.f0, .int .u8 p.f1], rfl, k149_mk W p, fun i u hu => ?_⟩⟩⟩
    have := cells149_at l j p hj i u hu
    exact hcs _ _ this
theorem elt149 : Elt Try.prog 107 149 (.agg #[.int .i64 0, .int .u8 0]) 2 16 := ⟨Try.underlying107, by kernel_rfl, rfl, by decide, by decide⟩
def made8 : List Int := [97, 98, 99, 100, 101, 102, 103, 104]
theorem take8 : ∀ i, i < 8 → orgs8.take (i + 1) = orgs8.take i ++ [⟨(i : Int), rd made8 (i : Int)⟩]
  | 0, _ => rfl
  | 1, _ => rfl
  | 2, _ => rfl
  | 3, _ => rfl
  | 4, _ => rfl
  | 5, _ => rfl
  | 6, _ => rfl
  | 7, _ => rfl
  | i + 8, h => by omega
theorem pushO {W : World} {base : Nat} {v : Value} {l : List S149} (h : OO W base v l) (hb : base ≤ W.heap.size) (a b : Int) (hl : l.length ≤ 1000000000) :
    ∃ v' w', (Builtin.append_ #[107, 107] 107 #[v, .slice (some ⟨W.heap.size, 0, none⟩) 1 1]).run Try.prog (W.alloc (.cells #[.int .i64 a, .int .u8 b] 149)) = .ok v' w' ∧ OO w' base v' (l ++ [⟨a, b⟩]) ∧ (W.alloc (.cells #[.int .i64 a, .int .u8 b] 149)).grownBy w' v.ownBlock := by
  have hba := (Below.refl W.heap.size W).alloc (Nat.le_refl _) (.cells #[.int .i64 a, .int .u8 b] 149)
  have hg := blk_new W (.cells #[.int .i64 a, .int .u8 b] 149)
  have hsrc : Src (W.alloc (.cells #[.int .i64 a, .int .u8 b] 149)) (some ⟨W.heap.size, 0, none⟩) 1 2 [.int .i64 a, .int .u8 b] := by
    refine ⟨rfl, fun j u hj => ⟨_, rfl, ?_⟩, by simp [Value.oneCell']⟩
    rw [Go.Proofs.YtmfnjmecnhagmaaW.PrintWords.add_plain, blk_cell hg, ← hj, List.getElem?_toArray]
  obtain ⟨v', w', h1, h2, h3, _, _⟩ := run_app (P := Try.prog) (W.alloc (.cells #[.int .i64 a, .int .u8 b] 149)) base 107 107 149 _ 2 16 elt149 v _ _ (pw_own_below h hba) (some ⟨W.heap.size, 0, none⟩) 1 1 _ hsrc (by omega) (Nat.le_trans hb hba.size)
  exact ⟨v', w', h1, by rw [OO, List.length_append, cells149, List.flatMap_append, List.flatMap_singleton]; exact h2, h3⟩
theorem OO.form {w : World} {b : Nat} {v : Value} {l : List S149} (h : OO w b v l) {n : Nat} (hn : l.length = n) : ∃ A c, v = .slice A n c := hn ▸ own_slice h
theorem zero8 : ∀ i : Nat, i < 8 → rd (List.replicate 8 (0 : Int)) (i : Int) = 0 := by decide
attribute [-go_sem] Builtin.append_
set_option maxRecDepth 100000 in
set_option maxHeartbeats 16000000 in
theorem origins8 {W : World} {Am : Option Addr} {cm : Nat} {A0 : Option Addr} {c0 : Nat} {A1 : Option Addr} {c1 : Nat} (hm : (Kd.int .u8).C W Am 8 made8) (hs : Kd.C k100 W A0 1 [⟨8, 0, 0⟩]) (hd : (Kd.int .u8).C W A1 8 (List.replicate 8 0)) (h8 : 8 ≤ c1) :
    Calls Try.prog 46 #[.slice Am 8 cm, .agg #[.slice A0 1 c0, .slice A1 8 c1, .slice none 0 0]] W fun e w' => ∃ A c, e = .returned (.slice A 8 c) ∧ OO w' W.heap.size (.slice A 8 c) orgs8 ∧ Below W.heap.size W w' := by
  have hba := (Below.refl W.heap.size W).alloc (Nat.le_refl _) (.cells #[.slice A0 1 c0, .slice A1 8 c1, .slice none 0 0] 37)
  have hE := blk_new W (.cells #[.slice A0 1 c0, .slice A1 8 c1, .slice none 0 0] 37)
  obtain ⟨w1, hw1⟩ : ∃ v, W.alloc (.cells #[.slice A0 1 c0, .slice A1 8 c1, .slice none 0 0] 37) = v := ⟨_, rfl⟩
  rw [hw1] at hba hE
  obtain ⟨i0, hi, hz0, hz1, hz2⟩ := info_parts elt149.hi
  obtain ⟨w2, hmk, hr2, hg2⟩ := run_make_own (P := Try.prog) w1 W.heap.size 107 149 i0 (.agg #[.int .i64 0, .int .u8 0]) 2 elt149.ht hi hz0 hz1 .i64 .i64 8 (by rw [hz2]; omega) (by simp only [maxLen]; omega) hba.size
  have hb2 : Below w1.heap.size w1 w2 := (Below.refl _ _).grown hg2 (Nat.le_refl _) (fun k e => by cases e)
  have HW1 := Hd.mk hw1
  have HE2 := Hd.mk (blk_below hE hb2)
  have HO2 : Hd (OO w2 W.heap.size (.slice (some ⟨w1.heap.size, 0, none⟩) 0 8) []) := ⟨hr2⟩
  have HB2 := Hd.mk (below_step hba hb2)
  have HMK := Hd.mk hmk
  have HS := Hd.mk hs
  have HMD := Hd.mk (And.intro hm hd)
  obtain ⟨ge, hge⟩ : ∃ g, W.heap.size = g := ⟨_, rfl⟩
  have HGE := Hd.mk hge
  clear hba hE hw1 hi hz0 hz1 hz2 hr2 hg2 hb2 hmk hm hs hd hge
  go_enter Try.func46, Try.ntmps46
  go_upto_region 1 with fail
  rw [HW1.out]
  obtain ⟨A2, hA2⟩ : ∃ A : Option Addr, A = some ⟨w1.heap.size, 0, none⟩ := ⟨_, rfl⟩
  rw [← hA2] at HO2 HMK
  clear hA2
  have hmk : (Instr.makeSlice 107 (.int .i64 0) (.int .i64 8)).run Try.prog w1 = .ok (.slice A2 0 8) w2 := HMK.out
  rw [HGE.out] at HE2
  go_wp2_with fail
  simp only [HGE.out]
  clear hmk HMK
  have e0 := blk_cell HE2.out 0
  have e1 := blk_cell HE2.out 1
  simp at e0 e1
  refine start_ (n := 4) (S := fun w' => w'.cell? ⟨ge, 0, none⟩ = some (.slice A0 1 c0) ∧ w'.cell? ⟨ge, 1, none⟩ = some (.slice A1 8 c1)) (ds := []) #[false, false, false, false] (by kernel_rfl) rfl rfl ⟨e0, e1⟩ (fun hHeld => ?_)
  refine pure_ (i := 0) (N := some 15) (v := ?_) (a' := ?_) #[true, false, false, false] rfl rfl (by kernel_rfl) (fun _ _ _ h => h) (Or.inl ⟨by rfl, ?_⟩) ?_ ?_
  rotate_left
  · intro w'
    go_simp
    with_reducible rfl
  rotate_left
  · simp only [Act.put, List.setIfInBounds_toArray, List.set_cons_zero, List.set_cons_succ, i64_w, i32_w]
    rfl
  refine pure_ (i := 2) (N := some 6) (v := ?_) (a' := ?_) #[true, false, true, false] rfl rfl (by kernel_rfl) (fun _ _ _ h => h) (Or.inl ⟨by rfl, ?_⟩) ?_ ?_
  rotate_left
  · intro w'
    go_simp
    with_reducible rfl
  rotate_left
  · simp only [Act.put, List.setIfInBounds_toArray, List.set_cons_zero, List.set_cons_succ, i64_w, i32_w]
    rfl
  refine take_ (i := 1) (N := some 16) (v := ?_) (a' := ?_) #[true, true, true, false] rfl rfl (by kernel_rfl) (fun _ _ _ h => h) (Or.inl ⟨by rfl, ?_⟩) hHeld ?_ ?_
  rotate_left
  · rintro w' ⟨s0, s1⟩
    go_simp
    with_reducible rfl
  rotate_left
  · simp only [Act.put, List.setIfInBounds_toArray, List.set_cons_zero, List.set_cons_succ, i64_w, i32_w]
    rfl
  refine pure_ (i := 3) (N := some 7) (v := ?_) (a' := ?_) #[true, true, true, true] rfl rfl (by kernel_rfl) (fun _ _ _ h => h) (Or.inl ⟨by rfl, ?_⟩) ?_ ?_
  rotate_left
  · intro w'
    go_simp
    with_reducible rfl
  rotate_left
  · simp only [Act.put, List.setIfInBounds_toArray, List.set_cons_zero, List.set_cons_succ, i64_w, i32_w]
    rfl
  refine done_ (by kernel_rfl) ?_
  have hdr := Below.drew' w2
  have HE3 := Hd.mk (blk_below HE2.out hdr)
  have HO3 : Hd (OO w2.drew W.heap.size (.slice A2 0 8) []) := ⟨pw_own_below HO2.out hdr⟩
  have HB3 := Hd.mk (below_step HB2.out hdr)
  obtain ⟨w3, hw3⟩ : ∃ v, w2.drew = v := ⟨_, rfl⟩
  rw [hw3] at HE3 HO3 HB3 hdr ⊢
  clear hHeld e0 e1 HE2 HO2 HB2 hw3 hdr
  have e0 := blk_cell HE3.out 0
  simp at e0
  go_wp2_with fail
  refine wp_loop_rounds 2 ?_
  rw [rounds_succ]
  obtain ⟨sa, hsa, x0, x1, x2⟩ := at_T100 (Kd.C_below HS.out HB3.out) 0 (by omega) (by omega)
  subst hsa
  have ha0 : sa.add 0 = sa := by simp [Addr.add]
  have hz : rd_T100 ([⟨8, 0, 0⟩] : List S100) 0 = ⟨8, 0, 0⟩ := rfl
  rw [hz, show Int.toNat 0 * 3 = 0 from rfl, ha0] at x0 x1 x2
  simp only at x0 x1 x2
  have hba := (Below.refl w3.heap.size w3).alloc (Nat.le_refl _) (.cells #[.int .i64 8, .int .i64 0, .int .i64 0] 100)
  have hg := blk_new w3 (.cells #[.int .i64 8, .int .i64 0, .int .i64 0] 100)
  obtain ⟨gs, hgs⟩ : ∃ g, w3.heap.size = g := ⟨_, rfl⟩
  obtain ⟨w4, hw4⟩ : ∃ v, w3.alloc (.cells #[.int .i64 8, .int .i64 0, .int .i64 0] 100) = v := ⟨_, rfl⟩
  rw [hw4] at hba hg
  rw [hgs] at hg
  have HW4 := Hd.mk hw4
  have HGS := Hd.mk hgs
  have HG4 := Hd.mk hg
  have HO4 : Hd (OO w4 W.heap.size (.slice A2 0 8) []) := ⟨pw_own_below HO3.out hba⟩
  have HB4 := Hd.mk (below_step HB3.out hba)
  clear hba hg hgs hw4 hz
  go_upto_region 6 with fail
  rw [HW4.out]
  simp only [HGS.out]
  clear x0 x1 x2 HW4 e0 HO3 HB3 HE3
  have s0 := blk_cell HG4.out 0
  simp at s0
  obtain ⟨da, hda, _⟩ := Kd.at_int (Kd.C_below HMD.out.2 HB4.out) 0 (by omega) (by omega)
  obtain ⟨ma, hma, _⟩ := Kd.at_int (Kd.C_below HMD.out.1 HB4.out) 0 (by omega) (by omega)
  subst hda
  subst hma
  go_wp2
  go_loopg [5, 26] 8 (fun k v5 v26 U => ∃ (i : Nat) (A : Option Addr) (c : Nat), v5 = .slice A i c ∧ v26 = .int .i64 i ∧ i + k = 8 ∧ Hd (OO U W.heap.size (.slice A i c) (orgs8.take i)) ∧ Hd (U.heap[gs]? = some (.cells #[.int .i64 8, .int .i64 0, .int .i64 0] 100 (0, 0))) ∧ Hd (Below W.heap.size W U))
  case atStart => exact ⟨0, A2, 8, rfl, rfl, by omega, HO4, HG4, HB4⟩
  case round =>
    clear HO4 HG4 HB4 s0
    obtain ⟨i, A, c, rfl, rfl, hk, HO, HG, HB⟩ := hrel
    rcases gk with _ | q
    rotate_left
    · have hlt : decide ((i : Int) < 8) = true := decide_eq_true (by omega)
      have hng : decide ((0 : Int) ≤ (i : Int)) = true := decide_eq_true (by omega)
      have hi : i < 8 := by omega
      obtain ⟨ad, ed, hcd⟩ := Kd.at_int (Kd.C_below HMD.out.2 HB.out) (i : Int) (by omega) (by omega)
      obtain ⟨am, em, hcm⟩ := Kd.at_int (Kd.C_below HMD.out.1 HB.out) (i : Int) (by omega) (by omega)
      cases ed
      cases em
      rw [Int.toNat_natCast, zero8 i hi] at hcd
      rw [Int.toNat_natCast] at hcm
      have hln : (orgs8.take i).length = i := by rw [List.length_take]; show min i 8 = i; omega
      obtain ⟨v', w', hrun, ho', hg'⟩ := pushO HO.out HB.out.size (i : Int) (rd made8 (i : Int)) (by rw [hln]; omega)
      rw [← take8 i hi] at ho'
      obtain ⟨A', c', e'⟩ := ho'.form (n := i + 1) (by rw [List.length_take]; show min (i + 1) 8 = i + 1; omega)
      subst e'
      have hba := (Below.refl wr.heap.size wr).alloc (Nat.le_refl _) (.cells #[.int .i64 i, .int .u8 (rd made8 (i : Int))] 149)
      have HO' := Hd.mk ho'
      have HG' := Hd.mk (blk_grown (blk_below HG.out hba) hg' (own_ne HO.out HG.out (by decide)))
      have HB' := Hd.mk ((below_step HB.out hba).grown hg' (Nat.le_trans HB.out.size hba.size) (own_base HO.out))
      clear hba ho' hg' hln HO HG HB
      go_wp2
      go_roundg q
      case measure => omega
      case rel => exact ⟨i + 1, A', c', by go_num, by go_num, by omega, HO', HG', HB'⟩
    have hlt : decide ((i : Int) < 8) = false := decide_eq_false (by omega)
    have hi8 : i = 8 := by omega
    subst hi8
    have s0 := blk_cell HG.out 0
    have s1 := blk_cell HG.out 1
    have s2 := blk_cell HG.out 2
    simp at s0 s1 s2
    have HO8 : Hd (OO wr W.heap.size (.slice A 8 c) orgs8) := ⟨HO.out⟩
    clear HO hlt hk
    go_wp2_with fail
    all_goals
      refine wp_loop_rounds 1 ?_
      rw [rounds_succ]
      go_wp2_with fail
      rw [rounds_succ]
      clear s0 s1 s2
      go_wp2_with fail
      go_ret
      exact ⟨A, c, rfl, HO8.out, HB.out⟩
end Go.Proofs.Ytmfnjmecnhagmaa
