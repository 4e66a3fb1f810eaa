/- num: the walk of NumTells. -/
import Derived.Test.YtpjfepeedfbpfaaRa
import Derived.Deep.Onto
namespace Go.Proofs.Ytpjfepeedfbpfaa
open Go.RowKit Go.Shelf Go.Proofs.YtpjfepeedfbpfaaW.PrintWords Go.Proofs.YtpjfepeedfbpfaaW.PrintLast Go.Proofs.YtpjfepeedfbpfaaW.PrintMore
set_option linter.unusedVariables false
set_option linter.unusedSimpArgs false
attribute [local go_sem] Oper.semAt_some
theorem bs_lit (w : World) (l : List Int) (n : Nat) (t : TypeId) (hl : l.length = n) (hr : ∀ x ∈ l, 0 ≤ x ∧ x ≤ 255) (hn : n ≤ 140737488351232) : Bs (w.alloc (.cells (nums .u8 l).toArray t)) (some ⟨w.heap.size, 0, none⟩) n n l := by
  subst hl
  refine ⟨Kd.C_of_reads (enc := Value.int .u8) (d := (0 : Int)) (h1 := fun _ => rfl) ⟨rfl, by omega, fun _ => ⟨_, rfl, fun j hj => ?_⟩⟩, Nat.le_refl _, hr⟩
  rw [add_plain, blk_cell (blk_new w _)]
  simp [nums, hj]
/-- Cells below m lie as they lay, and whatever lies below n. -/
structure Lo (n m : Nat) (W W' : World) : Prop where
  os : W'.os = W.os
  tape : W'.tape = W.tape
  output : W'.output = W.output
  size : W.heap.size ≤ W'.heap.size
  block : ∀ k o, W.heap[k]? = some o → (k < n ∨ (k < m ∧ o.isCells = true)) → W'.heap[k]? = some o
theorem Lo.of_bk {n m : Nat} {W W' : World} (h : Bk n W W') : Lo n m W W' := ⟨h.os, h.tape, h.output, h.size, fun k o hk hc => h.block k o hk (hc.elim .inr fun h => .inl h.2)⟩
theorem Lo.of_upd {n m : Nat} {S : Nat → Prop} {W W' : World} (h : Upd S W W') (hs : ∀ k, S k → n ≤ k ∧ m ≤ k) : Lo n m W W' :=
  ⟨h.os, h.tape, h.output, h.size, fun k o hk hc => h.blk hk (fun hS => by have := hs k hS; omega)⟩
theorem Lo.below {n m : Nat} {w W W' : World} (h : Below n w W) (hn : n ≤ W.heap.size) (b : Lo n m W W') : Below n w W' := by
  refine ⟨b.os.trans h.os, b.tape.trans h.tape, b.output.trans h.output, Nat.le_trans h.size b.size, fun k hk => ?_⟩
  rw [← h.block k hk]
  have hlt : k < W.heap.size := by omega
  rw [Array.getElem?_eq_getElem hlt]
  exact b.block k _ (Array.getElem?_eq_getElem hlt) (.inl hk)
theorem Lo.blk {n m : Nat} {W W' : World} (b : Lo n m W W') {k : Nat} {cs : Array Value} {t : TypeId} {fr : Nat × Nat} (h : W.heap[k]? = some (.cells cs t fr)) (hk : k < m) : W'.heap[k]? = some (.cells cs t fr) := b.block k _ h (.inr ⟨hk, rfl⟩)
theorem Bs.lo {n m : Nat} {W W' : World} (b : Lo n m W W') {A : Option Addr} {q c : Nat} {xs : List Int} (h : Bs W A q c xs) (hA : ∀ ad, A = some ad → ad.block < m) : Bs W' A q c xs := by
  refine ⟨Kd.C_of_reads (enc := Value.int .u8) (d := (0 : Int)) (h1 := fun _ => rfl) ⟨h.len, Kd.C_max h.C, fun hn => ?_⟩, h.hc, h.hr⟩
  obtain ⟨ad, e, _⟩ := at_byte h.C 0 hn
  refine ⟨ad, e, fun j hj => ?_⟩
  obtain ⟨ad', e', hc'⟩ := at_byte h.C j (by have := h.len; omega)
  cases e.symm.trans e'
  have hb : (ad.add j).block = ad.block := by unfold Addr.add; split <;> rfl
  have hlt := hA ad e
  unfold World.cell? at hc' ⊢
  rw [hb] at hc' ⊢
  cases ho : W.heap[ad.block]? with
  | none => rw [ho] at hc'; simp at hc'
  | some o =>
    cases o with
    | cells cs t fr => rw [b.blk ho hlt]; rw [ho] at hc'; exact hc'
    | _ => rw [ho] at hc'; simp at hc'
theorem Bs.upd {S : Nat → Prop} {w w' : World} {A : Option Addr} {n c : Nat} {xs : List Int} (h : Bs w A n c xs) (hu : Upd S w w') (hA : ∀ ad, A = some ad → ¬ S ad.block) : Bs w' A n c xs := by
  refine ⟨Kd.C_of_reads (enc := Value.int .u8) (d := (0 : Int)) (h1 := fun _ => rfl) ⟨h.len, Kd.C_max h.C, fun hn => ?_⟩, h.hc, h.hr⟩
  obtain ⟨ad, e, _⟩ := at_byte h.C 0 hn
  refine ⟨ad, e, fun j hj => ?_⟩
  obtain ⟨ad', e', hc'⟩ := at_byte h.C j (by have := h.len; omega)
  cases e.symm.trans e'
  have := hu.cell hc' (by
    have hb : (ad.add j).block = ad.block := by unfold Addr.add; split <;> rfl
    rw [hb]; exact hA _ e)
  exact this
structure NT (w : World) (lv : Int) (Bx : Nat) (A : Option Addr) (n c : Nat) (xs : List Int) (B8 : Nat) (wA : Option Addr) (L : List (Nat × Int)) (wc m : Nat) (W : World) : Prop where
  lv : W.heap[w.heap.size]? = some (.cells #[.int .i64 lv] 3 (0, 0))
  rs : W.heap[w.heap.size + 1]? = some (.cells #[.bool false] 4 (0, 0))
  al : AllR W Bx A n c xs
  wt : W.heap[B8]? = some (.cells #[.slice wA L.length wc] 58 (0, 0))
  wl : ∀ i, i < L.length → ∃ ad, wA = some ad ∧ W.cell? (ad.add (i * 2)) = some (.int .i64 ((L.getD i (0, 0)).1 : Int)) ∧ W.cell? ⟨(ad.add (i * 2)).block, (ad.add (i * 2)).off + 1, none⟩ = some (.int .u64 (L.getD i (0, 0)).2)
  be : Below w.heap.size w W
  sz : w.heap.size + 1 < m ∧ m ≤ W.heap.size
  bx : Bx < m
  b8 : B8 < m
  ba : ∀ ad, A = some ad → ad.block < m
  bw : ∀ ad, wA = some ad → ad.block < m
theorem Lo.cell {n m : Nat} {W W' : World} (b : Lo n m W W') {p : Addr} {v : Value} (h : W.cell? p = some v) (hp : p.block < m) : W'.cell? p = some v := by
  unfold World.cell? at h ⊢
  cases ho : W.heap[p.block]? with
  | none => rw [ho] at h; simp at h
  | some o =>
    cases o with
    | cells cs t fr => rw [b.blk ho hp]; rw [ho] at h; exact h
    | _ => rw [ho] at h; simp at h
theorem add_block (a : Addr) (n : Nat) : (a.add n).block = a.block := by unfold Addr.add; split <;> rfl
theorem NT.lo {w : World} {lv : Int} {Bx : Nat} {A : Option Addr} {n c : Nat} {xs : List Int} {B8 : Nat} {wA : Option Addr} {L : List (Nat × Int)} {wc m : Nat} {W W' : World} (h : NT w lv Bx A n c xs B8 wA L wc m W) (b : Lo w.heap.size m W W') : NT w lv Bx A n c xs B8 wA L wc m W' := by
  refine ⟨b.blk h.lv (by have := h.sz; omega), b.blk h.rs (by have := h.sz; omega), ⟨b.blk h.al.b h.bx, h.al.r.lo b h.ba⟩, b.blk h.wt h.b8, fun i hi => ?_, Lo.below h.be (by have := h.sz; omega) b, ⟨h.sz.1, Nat.le_trans h.sz.2 b.size⟩, h.bx, h.b8, h.ba, h.bw⟩
  obtain ⟨ad, e, h1, h2⟩ := h.wl i hi
  have hlt := h.bw ad e
  exact ⟨ad, e, b.cell h1 (by rw [add_block]; exact hlt), b.cell h2 (by show (ad.add (i * 2)).block < m; rw [add_block]; exact hlt)⟩
theorem atCells_get : ∀ (L : List (Nat × Int)) (i : Nat), i < L.length → (atCells L)[i * 2]? = some (.int .i64 ((L.getD i (0, 0)).1 : Int)) ∧ (atCells L)[i * 2 + 1]? = some (.int .u64 (L.getD i (0, 0)).2)
  | [], i, h => by simp at h
  | x :: L, 0, h => ⟨rfl, rfl⟩
  | x :: L, i + 1, h => by
    have := atCells_get L i (by simpa using h)
    have e1 : (i + 1) * 2 = i * 2 + 2 := by omega
    rw [e1]
    exact this
theorem al_len (xs : List Int) : ∀ (k at_ : Nat), at_ ≤ xs.length → (al xs k at_).length + at_ ≤ xs.length
  | 0, at_, h => by simpa [al] using h
  | k + 1, at_, h => by
    by_cases he : (rdN (xs.drop at_)).2.2 = 0
    · obtain ⟨m, h1, h2, h3⟩ := rdN_ok _ he
      rw [List.length_drop] at h3
      rw [al, if_neg (by rw [he]; simp), h1, Int.toNat_natCast, List.length_cons]
      have := al_len xs k (at_ + m) (by omega)
      omega
    · rw [al, if_pos he]
      simpa using h
theorem Upd.bk {S : Nat → Prop} {a W W' : World} (h : Upd S a W) (b : Bk a.heap.size W W') : Upd S a W' := by
  refine ⟨b.os.trans h.os, b.tape.trans h.tape, b.output.trans h.output, Nat.le_trans h.size b.size, fun k hk hn => ?_⟩
  rw [← h.block k hk hn]
  have hlt : k < W.heap.size := Nat.lt_of_lt_of_le hk h.size
  rw [Array.getElem?_eq_getElem hlt]
  exact b.block k _ (Array.getElem?_eq_getElem hlt) (.inr hk)
/-- A box of a whole number. -/
def Bi (W : World) (b : Nat) (x : Int) : Prop := W.heap[b]? = some (.cells #[.int .i64 x] 3 (0, 0))
theorem Bi.bk {n : Nat} {W W' : World} {b : Nat} {x : Int} (h : Bi W b x) (k : Bk n W W') : Bi W' b x := k.block _ _ h (.inl rfl)
theorem Bi.set {W : World} {b : Nat} {x : Int} (h : Bi W b x) (y : Int) : Bi (W.setCell ⟨b, 0, none⟩ (.int .i64 y)) b y := by
  have := blk_set h 0 (.int .i64 y)
  simpa [Bi] using this
def Bu (W : World) (b : Nat) (x : Int) : Prop := W.heap[b]? = some (.cells #[.int .u64 x] 22 (0, 0))
theorem Bu.bk {n : Nat} {W W' : World} {b : Nat} {x : Int} (h : Bu W b x) (k : Bk n W W') : Bu W' b x := k.block _ _ h (.inl rfl)
theorem Bu.set {W : World} {b : Nat} {x : Int} (h : Bu W b x) (y : Int) : Bu (W.setCell ⟨b, 0, none⟩ (.int .u64 y)) b y := by
  have := blk_set h 0 (.int .u64 y)
  simpa [Bu] using this
theorem all_lit : allN [5, 128, 1, 7] = [(0, 5), (1, 128), (3, 7)] := by decide
set_option maxRecDepth 100000 in
theorem leave3 {w0 W : World} {g D1 D2 D3 : Nat} {tmps : Array Value} (hg : w0.heap.size ≤ g) (h1 : W.heap[D1]? = some (.deferred (some []))) (h2 : W.heap[D2]? = some (.deferred (some []))) (h3 : W.heap[D3]? = some (.deferred (some [])))
    (n12 : D2 ≠ D1) (n13 : D3 ≠ D1) (n23 : D3 ≠ D2) (hb : Below w0.heap.size w0 W) (hc : W.heap[g]? = some (.cells #[.bool false] 4 (0, 0))) (ht : tmps.getD 4 undef = .pointer (some ⟨g, 0, none⟩))
    (b1 : w0.heap.size ≤ D1) (b2 : w0.heap.size ≤ D2) (b3 : w0.heap.size ≤ D3) :
    LeavesInM Fence.wide 0 Try.prog Try.f6 tmps (fun e w' => e = .returned (.bool true) ∧ Below w0.heap.size w0 w')
      [{ target := .collected D1, args := #[] }, { target := .collected D2, args := #[] }, { target := .collected D3, args := #[] }] .returning (W.setCell ⟨g, 0, none⟩ (.bool true)) := by
  obtain ⟨W1, e1⟩ : ∃ W1, W.setCell ⟨g, 0, none⟩ (.bool true) = W1 := ⟨_, rfl⟩
  have k0 := KeepsOthers.setCell W ⟨g, 0, none⟩ (.bool true)
  have hs := blk_set hc 0 (.bool true)
  have hb1 : Below w0.heap.size w0 (W.setCell ⟨g, 0, none⟩ (.bool true)) := hb.setCell hg _
  rw [e1] at k0 hs hb1 ⊢
  simp at hs
  have d1 := k0.same _ _ h1 rfl
  have d2 := k0.same _ _ h2 rfl
  have d3 := k0.same _ _ h3 rfl
  clear e1 k0 h1 h2 h3 hc hb
  have gn1 : g ≠ D1 := by rintro rfl; rw [hs] at d1; cases d1
  have gn2 : g ≠ D2 := by rintro rfl; rw [hs] at d2; cases d2
  have gn3 : g ≠ D3 := by rintro rfl; rw [hs] at d3; cases d3
  refine ⟨by simp, .inl ⟨_, _, rfl, run_takeDeferred d1, ?_⟩⟩
  have d2' := (World.putObj_heap_other (o := .deferred none) n12).trans d2
  have d3' := (World.putObj_heap_other (o := .deferred none) n13).trans d3
  have s1 := (World.putObj_heap_other (o := .deferred none) gn1).trans hs
  have hb2 := Bk.below hb1 hb1.size (Bk.putObj (o' := .deferred none) b1 d1 rfl)
  refine ⟨by simp, .inl ⟨_, _, rfl, run_takeDeferred d2', ?_⟩⟩
  have d3'' := (World.putObj_heap_other (o := .deferred none) n23).trans d3'
  have s2 := (World.putObj_heap_other (o := .deferred none) gn2).trans s1
  have hb3 := Bk.below hb2 hb2.size (Bk.putObj (o' := .deferred none) b2 d2' rfl)
  refine ⟨by simp, .inl ⟨_, _, rfl, run_takeDeferred d3'', ?_⟩⟩
  have s3 := (World.putObj_heap_other (o := .deferred none) gn3).trans s2
  have hb4 := Bk.below hb3 hb3.size (Bk.putObj (o' := .deferred none) b3 d3'' rfl)
  have cf := blk_cell s3 0
  simp at cf
  have ht' : tmps[4]?.getD undef = .pointer (some ⟨g, 0, none⟩) := by simpa using ht
  refine ⟨.bool true, ?_, rfl, hb4⟩
  simp [results, Try.results6, go_sem, ht', cf]
theorem eq_nilfunc (fn : Fn) (a b : Array Value) (w : World) : (binOp .eql 56 (.func fn a b) .nilFunc).run Try.prog w = .ok (.bool false) w := by kernel_rfl
set_option maxRecDepth 100000 in
set_option maxHeartbeats 8000000 in
theorem tells_calls (A : Option Addr) (n c : Nat) (xs : List Int) (lv : Int) (w : World) (hB : Bs w A n c xs) (hn : n ≤ 1048576) (l0 : -9223372036854775808 ≤ lv) (l1 : lv ≤ 9223372036854775807) :
    Calls Try.prog 6 #[.slice A n c, .int .i64 lv] w fun e w' => e = .returned (.bool true) ∧ Below w.heap.size w w' := by
  have HB := Hd.mk hB
  have hxl := hB.len
  have HX := Hd.mk hxl
  have HB0 : Hd (Bs ((w.alloc (.cells #[.int .i64 lv] 3)).alloc (.cells #[.bool false] 4)) A n c xs) := ⟨hB.below (((Below.refl _ _).alloc (Nat.le_refl _) _).alloc (by simp) _)⟩
  have HW0 : Hd (Below w.heap.size w ((w.alloc (.cells #[.int .i64 lv] 3)).alloc (.cells #[.bool false] 4))) := ⟨(((Below.refl _ _).alloc (Nat.le_refl _) _).alloc (by simp) _)⟩
  have HLV : Hd (((w.alloc (.cells #[.int .i64 lv] 3)).alloc (.cells #[.bool false] 4)).heap[w.heap.size]? = some (.cells #[.int .i64 lv] 3 (0, 0))) := ⟨blk_alloc (blk_new w _) _⟩
  have HRS : Hd (((w.alloc (.cells #[.int .i64 lv] 3)).alloc (.cells #[.bool false] 4)).heap[w.heap.size + 1]? = some (.cells #[.bool false] 4 (0, 0))) := ⟨by have := blk_new (w.alloc (.cells #[.int .i64 lv] 3)) (.cells #[.bool false] 4); rw [World.size_alloc] at this; exact this⟩
  have HT5 : Hd ((xs ++ tail5).take n = xs) := ⟨by rw [← hxl]; exact List.take_left⟩
  clear hB hxl
  refine callsIn_wide.1 (callsIn_of_wp_marks (n := 0) Try.func6 rfl trivial (wpIn_wide.2 ?_) rfl)
  simp only [Try.ntmps6, List.size_toArray, List.length_cons, List.length_nil, Nat.reduceAdd, Nat.reduceSub, Array.replicate_succ, Array.replicate_zero, List.push_toArray, List.append_toArray, List.nil_append, List.cons_append]
  go_wp2_with (first
    | (go_at_call 19; go_must (refine (lend_calls _ _ _ xs _ HB0.out (by omega)).mono ?_); rintro e w1 ⟨g, d, rfl, h1, h2⟩; have H1 := Hd.mk h2; have HO := Hd.mk h1; have HP := Hd.mk ((lent_bs h1 HB.out).pre n (by omega)); have HQ := Hd.mk (lent_bs h1 HB.out); clear h1 h2))
  rw [HT5.out] at HP
  go_at_call 27
  refine (all_calls _ _ _ xs _ HP.out (by omega)).mono ?_
  rintro e w2 ⟨Bx, A', c', rfl, h1, h2, h3, h4, h5⟩
  have hsz1 := H1.out.size
  rw [World.size_alloc, World.size_alloc] at hsz1
  have H2 := Hd.mk (below_step (below_step HW0.out H1.out) h5)
  have HLV2 : Hd (w2.heap[w.heap.size]? = some (.cells #[.int .i64 lv] 3 (0, 0))) := ⟨blk_below (blk_below HLV.out H1.out) h5⟩
  have HRS2 : Hd (w2.heap[w.heap.size + 1]? = some (.cells #[.bool false] 4 (0, 0))) := ⟨blk_below (blk_below HRS.out H1.out) h5⟩
  have HO2 := Hd.mk (HO.out.below h5)
  have HB2 := Hd.mk (HB.out.below H2.out)
  have HAR : Hd (AllR w2 Bx A' n c' xs) := ⟨⟨h1, h2⟩⟩
  have HAl := Hd.mk h4
  have HQ2 := Hd.mk (HQ.out.below h5)
  have hBx : w1.heap.size ≤ Bx := h3
  have hBx2 := blk_lt h1
  have hgq := own_lt HO.out g (by simp [Value.ownBlock])
  have hgq0 := own_base HO.out g (by simp [Value.ownBlock])
  rw [World.size_alloc, World.size_alloc] at hgq0
  clear h1 h2 h3 h4 h5 HP HO H1 HLV HRS HW0 HB0 HQ
  go_wp2_with fail
  go_at_call 28
  refine (rall_calls _ _ _ xs _ HB2.out (by omega)).mono ?_
  rintro e w3 ⟨wv, rfl, h1, h2⟩
  obtain ⟨L, hL⟩ : ∃ L, allN xs = L := ⟨_, rfl⟩
  rw [hL] at h1
  have HL := Hd.mk hL
  have H3 := Hd.mk (below_step H2.out h2)
  have HLV3 := Hd.mk (blk_below HLV2.out h2)
  have HRS3 := Hd.mk (blk_below HRS2.out h2)
  have HO3 := Hd.mk (HO2.out.below h2)
  have HB3 := Hd.mk (HB2.out.below h2)
  have HAR3 : Hd (AllR w3 Bx A' n c' xs) := ⟨⟨blk_below HAR.out.b h2, HAR.out.r.below h2⟩⟩
  have HQ3 := Hd.mk (HQ2.out.below h2)
  have hsz2 := h2.size
  have hLn : L.length ≤ 1048576 := by rw [← hL]; have := al_len xs (xs.length + 1) 0 (by omega); have := HX.out; unfold allN; omega
  obtain ⟨wA, wc, hwv, hwc⟩ : ∃ wA wc, wv = .slice wA L.length wc ∧ L.length ≤ wc := by
    rcases h1.2 with ⟨e1, e2⟩ | ⟨g', cap, cur, e1, _, _, hcp, _⟩
    · exact ⟨none, 0, by rw [e1, e2], by rw [e2]; exact Nat.le_refl _⟩
    · exact ⟨_, _, e1, hcp⟩
  subst hwv
  have HW3 := Hd.mk h1
  clear h1 h2 hL HLV2 HRS2 HO2 HB2 HAR HQ2 H2
  have hef := eq_nilfunc
  have HA3 : Hd (Below w3.heap.size w3 (w3.alloc (.cells #[.slice wA L.length wc] 58))) := ⟨(Below.refl _ _).alloc (Nat.le_refl _) _⟩
  have HQ3' := Hd.mk (HQ3.out.below HA3.out)
  have HB3' := Hd.mk (HB3.out.below HA3.out)
  go_wp2_with fail
  go_at_call 22
  refine (kept_calls _ _ _ (xs ++ tail5) _ _ _ xs _ HQ3'.out HB3'.out (by omega)).mono ?_
  rw [decide_eq_true (rfl : xs ++ tail5 = xs ++ tail5)]
  rintro e w4 ⟨rfl, h1⟩
  have HLit := Hd.mk (bs_lit w4 [5, 128, 1, 7] 4 5 rfl (by decide) (by omega))
  have hA4 := below_step HA3.out h1
  have HWT4 := Hd.mk (blk_below (blk_new w3 (.cells #[.slice wA L.length wc] 58)) h1)
  have HA4 := Hd.mk hA4
  clear h1 HQ3' HB3' HA3 hA4
  go_wp2_with fail
  go_at_call 27
  refine (all_calls _ _ _ [5, 128, 1, 7] _ HLit.out (by omega)).mono ?_
  rintro e w5 ⟨Bq, A5, c5, rfl, _, _, _, _, h5⟩
  have HWT5 := Hd.mk (blk_below HWT4.out (below_step ((Below.refl w4.heap.size w4).alloc (Nat.le_refl _) (.cells (nums .u8 [5, 128, 1, 7]).toArray 5)) h5))
  have HA5 := Hd.mk (below_step HA4.out (below_step ((Below.refl w4.heap.size w4).alloc (Nat.le_refl _) (.cells (nums .u8 [5, 128, 1, 7]).toArray 5)) h5))
  clear h5 HA4 HLit HWT4
  go_wp2_with fail
  have hsz5 := HA5.out.size
  have HO5 := Hd.mk (HO3.out.below HA5.out)
  have H5 := Hd.mk (below_step H3.out HA5.out)
  have HW5 := Hd.mk (pw_own_below HW3.out HA5.out)
  have HLV5 := Hd.mk (blk_below HLV3.out HA5.out)
  have HRS5 := Hd.mk (blk_below HRS3.out HA5.out)
  have HAR5 : Hd (AllR w5 Bx A' n c' xs) := ⟨⟨blk_below HAR3.out.b HA5.out, HAR3.out.r.below HA5.out⟩⟩
  clear HO3 H3 HW3 HLV3 HRS3 HAR3 HB3 HQ3
  have hrg := kept_range HB.out.hr
  have HRG := Hd.mk hrg
  clear hrg
  have hxl5 : (xs ++ tail5).length = n + 5 := by rw [List.length_append, HX.out]; rfl
  have HO5' : Hd (w5.ownsRow w.heap.size 5 1 (.slice (some ⟨g, 0, none⟩) (n + 5) d) (n + 5) (nums .u8 (xs ++ tail5))) := ⟨by have := HO5.out; rw [OB, hxl5] at this; exact World.ownsRow.mono this (by simp; omega)⟩
  have hd5 := own_cap HO5'.out
  go_loopg [41] (n + 5) (fun k y w'' => ∃ (j : Nat) (ys : List Int), y = .int .i64 j ∧ j + k = n + 5 ∧ Hd (ys.length = n + 5) ∧ Hd (w''.ownsRow w.heap.size 5 1 (.slice (some ⟨g, 0, none⟩) (n + 5) d) (n + 5) (nums .u8 ys)) ∧ Hd (Upd (· = g) w5 w''))
  case atStart => exact ⟨0, xs ++ tail5, rfl, by omega, ⟨hxl5⟩, HO5', ⟨Upd.refl _ _⟩⟩
  case round =>
    obtain ⟨j, ys, rfl, hj, HYL, HOr, HU⟩ := hrel
    rcases Nat.eq_zero_or_pos gk with rfl | hp
    · obtain rfl : j = n + 5 := by omega
      have hur := HU.out.size
      have hB8 := blk_lt HWT5.out
      have hw3 : g < w3.heap.size := by omega
      have HN : Hd (NT w lv Bx A' n c' xs w3.heap.size wA L wc wr.heap.size wr) := by
        refine ⟨HU.out.blk HLV5.out (by show ¬ w.heap.size = g; omega), HU.out.blk HRS5.out (by show ¬ w.heap.size + 1 = g; omega), ⟨HU.out.blk HAR5.out.b (by show ¬ Bx = g; omega), HAR5.out.r.upd HU.out (fun ad e => by have := (HAl.out ad e).1; show ¬ ad.block = g; omega)⟩, HU.out.blk HWT5.out (by show ¬ w3.heap.size = g; omega), fun i hi => ?_, ?_, ⟨by omega, Nat.le_refl _⟩, by omega, by omega, fun ad e => by have := (HAl.out ad e).2; omega, fun ad e => ?_⟩
        · have ho := own_upd HW5.out HU.out (fun k hk => by have := own_base HW5.out k hk; show ¬ k = g; omega)
          obtain ⟨g', cap, e, hg1, hg2⟩ := ho.form (by omega)
          cases e
          have hcs := ho.cells (g := g') rfl
          obtain ⟨a1, a2⟩ := atCells_get L i hi
          refine ⟨_, rfl, hcs _ _ a1, ?_⟩
          have := hcs _ _ a2
          rw [show (⟨((⟨g', 0, none⟩ : Addr).add (i * 2)).block, ((⟨g', 0, none⟩ : Addr).add (i * 2)).off + 1, none⟩ : Addr) = ((⟨g', 0, none⟩ : Addr).add (i * 2)).add 1 from rfl, add_add]
          exact this
        · exact ((show Upd (fun k => k = g) w wr from ((show Upd (fun k => k = g) w _ from Upd.of_below H5.out).trans HU.out (fun _ _ h => h))).below (Nat.le_refl _) (fun k hk h => by omega))
        · subst e
          have := own_lt HW5.out ad.block (by simp [Value.ownBlock])
          omega
      clear HLV5 HRS5 HAR5 HWT5 HW5 H5 HOr HU HO5 HO5' HYL HAl
      have HB10 : Hd (Bi (wr.alloc (.cells #[.int .i64 0] 3)) wr.heap.size 0) := ⟨blk_new wr _⟩
      have HN0 := Hd.mk (HN.out.lo (Lo.of_bk (Bk.of_below ((Below.refl _ _).alloc (Nat.le_refl _) (.cells #[.int .i64 0] 3)))))
      clear HN
      go_wp2_with fail
      obtain ⟨wz, hwz⟩ : ∃ wz, wr.alloc (.cells #[.int .i64 0] 3) = wz := ⟨_, rfl⟩
      rw [hwz] at HB10 HN0 ⊢
      have hzs : wr.heap.size + 1 = wz.heap.size := by rw [← hwz]; simp
      clear hwz
      obtain ⟨m, hm⟩ : ∃ b, wr.heap.size = b := ⟨_, rfl⟩
      rw [hm] at HB10 HN0 hzs ⊢
      have hmb : m ≤ m := Nat.le_refl _
      clear hm hur
      refine wp_loop_rounds 3 ?_
      rw [rounds_succ]
      have cr := blk_cell HB10.out 0
      simp at cr
      have HN1 := Hd.mk (HN0.out.lo (Lo.of_bk (Bk.of_below ((Below.refl _ _).alloc (Nat.le_refl _) (.cells #[.int .i64 0] 3)))))
      have HI1 : Hd (Bi (wz.alloc (.cells #[.int .i64 0] 3)) wz.heap.size 0) := ⟨blk_new wz _⟩
      have HR1 : Hd (Bi (wz.alloc (.cells #[.int .i64 0] 3)) m 0) := ⟨HB10.out.bk (n := 0) (Bk.of_below ((Below.refl _ _).alloc (Nat.le_refl _) _))⟩
      go_wp2_with fail
      obtain ⟨ws, hws⟩ : ∃ ws, wz.alloc (.cells #[.int .i64 0] 3) = ws := ⟨_, rfl⟩
      rw [hws] at HN1 HI1 HR1 ⊢
      have hss : wz.heap.size + 1 = ws.heap.size := by rw [← hws]; simp
      obtain ⟨b, hb⟩ : ∃ b, wz.heap.size = b := ⟨_, rfl⟩
      rw [hb] at HI1 hss hzs ⊢
      clear hws hb cr HN0 HB10
      refine (wpIn_wide (n := 0)).1 ?_
      refine wp_range_brk (F := Fence.wide) rfl rfl (gf := 37) (lb := #[.pointer (some ⟨Bx, 0, none⟩)]) rfl trivial (enters_of Try.func37 (by kernel_rfl) rfl) (fun i => encAt (L.getD i (0, 0))) (fun _ => rfl) L.length 4
        (fun i W => Bi W b i ∧ Upd (· = b) ws W) (fun W => 0 ≤ lv ∧ (∃ i : Nat, Bi W b i) ∧ Upd (· = b) ws W) (fun _ _ h => h)
        ⟨HI1.out, Upd.refl _ _⟩ (fun i W W' h k => ⟨h.1.bk k, h.2.bk k⟩) (fun W W' h k => ⟨h.1, by obtain ⟨i, hi⟩ := h.2.1; exact ⟨i, hi.bk k⟩, h.2.2.bk k⟩) ?seq ?round ?out
      case seq =>
        intro l W1 J Jx Jp hb1 hl hl2 hJI hst _ _ hY h0
        have := all1_in l Bx A' n c' W1.heap.size xs J Jx Jp (by omega) HX.out (fun i W hJ => (HN1.out.lo (Lo.of_upd (hJI i W hJ).2 (fun k hk => by have := HN1.out.sz; have := HN1.out.be.size; omega))).al) hst (by rw [HL.out]; exact hY) W1 h0
        rw [HL.out] at this
        exact this
      case round =>
        rintro l o i W hi ⟨h1, hu⟩ hl ho hc
        obtain ⟨⟨pa, pv⟩, hg⟩ : ∃ r, L.getD i (0, 0) = r := ⟨_, rfl⟩
        simp only [hg]
        dsimp only [encAt]
        gi_wp2
        refine ⟨KeepsOthers.refl _, fun W2 hb2 => ?_⟩
        have h1 := h1.bk hb2
        have hu := hu.bk hb2
        have HNW := Hd.mk (HN1.out.lo (Lo.of_upd hu (fun k hk => by have := HN1.out.sz; have := HN1.out.be.size; omega)))
        have c3 := blk_cell HNW.out.lv 0
        have c8 := blk_cell HNW.out.wt 0
        have c10 := blk_cell (hu.blk HR1.out (by show ¬ m = b; omega)) 0
        have c11 := blk_cell h1 0
        have f11 := blk_frozen h1 0
        simp at c3 c8 c10 c11
        have H1 := Hd.mk h1
        have HU := Hd.mk hu
        clear h1 hu
        obtain ⟨ad, e, p1, p2⟩ := HNW.out.wl i hi
        subst e
        rw [hg] at p1 p2
        simp only at p1 p2
        have HG := Hd.mk hg
        clear hg
        have hn1 : ¬ w.heap.size = b := by have := HN1.out.sz; have := HN1.out.be.size; omega
        have hn2 : ¬ m = b := by omega
        by_cases hlv : (i : Int) = lv
        · subst hlv
          gi_wp2
          exact ⟨KeepsOthers.setCell _ _ _, rfl, by omega, ⟨i + 1, H1.out.set _⟩, HU.out.set1 0 _⟩
        · have e1 : ((i : Int) == lv) = false := by simpa using hlv
          gi_wp2
          exact ⟨KeepsOthers.setCell _ _ _, H1.out.set _, HU.out.set1 0 _⟩
      case out =>
        intro D W hD h hd
        obtain ⟨i, h1, hu, hil⟩ : ∃ i : Nat, Bi W b i ∧ Upd (· = b) ws W ∧ (i = L.length ∨ ¬ lv < 0) := by
          rcases h with ⟨h1, h2⟩ | ⟨h0, ⟨i, h1⟩, h2⟩
          · exact ⟨_, h1, h2, .inl rfl⟩
          · exact ⟨i, h1, h2, .inr (by omega)⟩
        clear h
        have HNW := Hd.mk (HN1.out.lo (Lo.of_upd hu (fun k hk => by have := HN1.out.sz; have := HN1.out.be.size; omega)))
        have HR2 := Hd.mk (hu.blk HR1.out (by show ¬ m = b; omega))
        have c3 := blk_cell HNW.out.lv 0
        have c8 := blk_cell HNW.out.wt 0
        have c10 := blk_cell HR2.out 0
        have c11 := blk_cell h1 0
        have f11 := blk_frozen h1 0
        simp at c3 c8 c10 c11
        have hsW := hu.size
        have HD := Hd.mk hd
        clear h1 hu hd
        have hil2 : (lv < 0 ∧ i = L.length) ∨ ¬ lv < 0 := by
          by_cases h0 : lv < 0
          · exact .inl ⟨h0, hil.resolve_right (fun h => h h0)⟩
          · exact .inr h0
        clear hil
        rcases hil2 with ⟨hl0, rfl⟩ | hl0
        all_goals
          go_wp2_with fail
          rw [rounds_succ]
          have HB2 : Hd (Bi (W.alloc (.cells #[.int .i64 1] 3)) W.heap.size 1) := ⟨blk_new W _⟩
          have HNy := Hd.mk (HNW.out.lo (Lo.of_bk (Bk.of_below ((Below.refl _ _).alloc (Nat.le_refl _) (.cells #[.int .i64 1] 3)))))
          have HDy := Hd.mk (blk_alloc HD.out (.cells #[.int .i64 1] 3))
          have hWs : W.heap.size + 1 = (W.alloc (.cells #[.int .i64 1] 3)).heap.size := by simp
          obtain ⟨wy, hwy⟩ : ∃ wy, W.alloc (.cells #[.int .i64 1] 3) = wy := ⟨_, rfl⟩
          rw [hwy] at HB2 HNy HDy hWs ⊢
          have hDy := blk_lt HDy.out
          obtain ⟨m2, hm2⟩ : ∃ m2, W.heap.size = m2 := ⟨_, rfl⟩
          rw [hm2] at HB2 hWs hsW ⊢
          clear hwy hm2 c3 c8 c10 c11 f11 HNW HR2 HN1 HI1 HR1
          have cr := blk_cell HB2.out 0
          simp at cr
          have HN2 := Hd.mk (HNy.out.lo (Lo.of_bk (Bk.of_below ((Below.refl _ _).alloc (Nat.le_refl _) (.cells #[.int .i64 0] 3)))))
          have HI2 : Hd (Bi (wy.alloc (.cells #[.int .i64 0] 3)) wy.heap.size 0) := ⟨blk_new wy _⟩
          have HR2 : Hd (Bi (wy.alloc (.cells #[.int .i64 0] 3)) m2 1) := ⟨HB2.out.bk (n := 0) (Bk.of_below ((Below.refl _ _).alloc (Nat.le_refl _) _))⟩
          have HD2 := Hd.mk (blk_alloc HDy.out (.cells #[.int .i64 0] 3))
          go_wp2_with fail
          obtain ⟨wt, hwt⟩ : ∃ wt, wy.alloc (.cells #[.int .i64 0] 3) = wt := ⟨_, rfl⟩
          rw [hwt] at HN2 HI2 HR2 HD2 ⊢
          have hst : wy.heap.size + 1 = wt.heap.size := by rw [← hwt]; simp
          obtain ⟨b2, hb2⟩ : ∃ b, wy.heap.size = b := ⟨_, rfl⟩
          rw [hb2] at HI2 hst hWs hDy ⊢
          clear hwt hb2 cr HNy HB2 HDy HD
          refine (wpIn_wide (n := 0)).1 ?_
          refine wp_range_brk (F := Fence.wide) rfl rfl (gf := 37) (lb := #[.pointer (some ⟨Bx, 0, none⟩)]) rfl trivial (enters_of Try.func37 (by kernel_rfl) rfl) (fun i => encAt (L.getD i (0, 0))) (fun _ => rfl) L.length 4
            (fun i W => Bi W b2 i ∧ Upd (· = b2) wt W) (fun W => False) (fun _ _ h => h)
            ⟨HI2.out, Upd.refl _ _⟩ (fun i W W' h k => ⟨h.1.bk k, h.2.bk k⟩) (fun W W' h k => h.elim) ?_ ?_ ?_
          · intro l W1 J Jx Jp hb1 hl hl2 hJI hst _ _ hY h0
            have := all1_in l Bx A' n c' W1.heap.size xs J Jx Jp (by omega) HX.out (fun i W hJ => (HN2.out.lo (Lo.of_upd (hJI i W hJ).2 (fun k hk => by have := HN2.out.sz; have := HN2.out.be.size; omega))).al) hst (by rw [HL.out]; exact hY) W1 h0
            rw [HL.out] at this
            exact this
          · rintro l o i W' hi ⟨h1, hu⟩ hl ho hc
            obtain ⟨⟨pa, pv⟩, hg⟩ : ∃ r, L.getD i (0, 0) = r := ⟨_, rfl⟩
            simp only [hg]
            dsimp only [encAt]
            gi_wp2
            refine ⟨KeepsOthers.refl _, fun W3 hb3 => ?_⟩
            have h1 := h1.bk hb3
            have hu := hu.bk hb3
            have HNW := Hd.mk (HN2.out.lo (Lo.of_upd hu (fun k hk => by have := HN2.out.sz; have := HN2.out.be.size; omega)))
            have c3 := blk_cell HNW.out.lv 0
            have c8 := blk_cell HNW.out.wt 0
            have c10 := blk_cell (hu.blk HR2.out (by show ¬ m2 = b2; omega)) 0
            have c11 := blk_cell h1 0
            have f11 := blk_frozen h1 0
            simp at c3 c8 c10 c11
            have H1 := Hd.mk h1
            have HU := Hd.mk hu
            clear h1 hu
            obtain ⟨ad, e, p1, p2⟩ := HNW.out.wl i hi
            subst e
            rw [hg] at p1 p2
            simp only at p1 p2
            have HG := Hd.mk hg
            clear hg
            have hn1 : ¬ w.heap.size = b2 := by have := HN2.out.sz; have := HN2.out.be.size; omega
            have hn2 : ¬ m2 = b2 := by omega
            gi_wp2
            exact ⟨KeepsOthers.setCell _ _ _, H1.out.set _, HU.out.set1 0 _⟩
          · intro D2 W2 hD2 h hd2
            obtain ⟨h1, hu⟩ := h.resolve_right id
            have HNW := Hd.mk (HN2.out.lo (Lo.of_upd hu (fun k hk => by have := HN2.out.sz; have := HN2.out.be.size; omega)))
            have HR3 := Hd.mk (hu.blk HR2.out (by show ¬ m2 = b2; omega))
            have HD3 := Hd.mk (hu.blk HD2.out (by show ¬ D = b2; omega))
            have c3 := blk_cell HNW.out.lv 0
            have c8 := blk_cell HNW.out.wt 0
            have c10 := blk_cell HR3.out 0
            have c11 := blk_cell h1 0
            simp at c3 c8 c10 c11
            have HE2 := Hd.mk hd2
            have hsW2 := hu.size
            clear h1 hu hd2 h HN2 HI2 HR2 HD2
            go_wp2_with fail
            rw [rounds_succ]
            go_wp2_with fail
            have hWx : Below W2.heap.size W2 ((W2.alloc (.cells #[.int .i64 2] 3)).alloc (.cells #[.int .u64 0] 22)) := ((Below.refl _ _).alloc (Nat.le_refl _) _).alloc (by simp) _
            have HNx := Hd.mk (HNW.out.lo (Lo.of_bk (Bk.of_below hWx)))
            have HDx := Hd.mk (blk_below HD3.out hWx)
            have HEx := Hd.mk (blk_below HE2.out hWx)
            have HSx : Hd (((W2.alloc (.cells #[.int .i64 2] 3)).alloc (.cells #[.int .u64 0] 22)).heap[W2.heap.size + 1]? = some (.cells #[.int .u64 0] 22 (0, 0))) := ⟨by have := blk_new (W2.alloc (.cells #[.int .i64 2] 3)) (.cells #[.int .u64 0] 22); rw [World.size_alloc] at this; exact this⟩
            obtain ⟨wx, hwx⟩ : ∃ wx, (W2.alloc (.cells #[.int .i64 2] 3)).alloc (.cells #[.int .u64 0] 22) = wx := ⟨_, rfl⟩
            have hxs : W2.heap.size + 1 + 1 = wx.heap.size := by rw [← hwx]; simp
            rw [hwx] at HNx HDx HEx HSx ⊢
            rw [hxs]
            obtain ⟨sb, hsb⟩ : ∃ sb, W2.heap.size + 1 = sb := ⟨_, rfl⟩
            rw [hsb] at hxs HSx ⊢
            have hD2s : D2 < sb := by have := blk_lt HE2.out; omega
            have hDs : D < sb := by have := blk_lt HD3.out; omega
            have HLit := Hd.mk (bs_lit wx [5, 128, 1, 7] 4 5 rfl (by decide) (by omega))
            clear hwx hsb hWx c3 c8 c10 c11 HNW HR3 HD3 HE2
            go_at_call 27
            refine (all_calls _ _ _ [5, 128, 1, 7] _ HLit.out (by omega)).mono ?_
            rintro e W3 ⟨Bp, Ap, cp, rfl, g1, g2, g3, g4, g5⟩
            have hb3 := below_step ((Below.refl wx.heap.size wx).alloc (Nat.le_refl _) (.cells (nums .u8 [5, 128, 1, 7]).toArray 5)) g5
            have HN4 := Hd.mk (HNx.out.lo (Lo.of_bk (Bk.of_below hb3)))
            have HD4 := Hd.mk (blk_below HDx.out hb3)
            have HE4 := Hd.mk (blk_below HEx.out hb3)
            have HS4 := Hd.mk (blk_below HSx.out hb3)
            have HA4 : Hd (AllR W3 Bp Ap 4 cp [5, 128, 1, 7]) := ⟨⟨g1, g2⟩⟩
            have HA5 := Hd.mk g4
            have hBp : sb < Bp := by rw [World.size_alloc] at g3; omega
            have hs3 := hb3.size
            have hx1 : wx.heap.size + 1 ≤ Bp := by rw [World.size_alloc] at g3; exact g3
            clear g1 g2 g3 g4 g5 hb3 HNx HDx HEx HSx HLit
            go_wp2_with fail
            refine (wpIn_wide (n := 0)).1 ?_
            refine wp_range (F := Fence.wide) rfl rfl (gf := 37) (lb := #[.pointer (some ⟨Bp, 0, none⟩)]) rfl trivial (enters_of Try.func37 (by kernel_rfl) rfl) (fun i => encAt ([(0, 5), (1, 128), (3, 7)].getD i (0, 0))) (fun _ => rfl) 3
              (fun i W => Bu W sb ([0, 50, 51281, 51281073].getD i 0) ∧ Upd (· = sb) W3 W) (fun _ _ => False) (fun _ _ => False) (.inl fun _ _ h => h)
              ⟨HS4.out, Upd.refl _ _⟩ (fun i W W' h k => ⟨h.1.bk k, h.2.bk k⟩) (fun _ _ _ h _ => h.elim) (fun _ _ _ h _ => h.elim) ?_ ?_ ?_ (fun _ _ _ _ h _ => h.elim) (fun _ _ _ _ h _ => h.elim)
            · intro l W1 J Jx Jp hb1 hl hl2 hJI hst _ _ hY h0
              have := all1_in l Bp Ap 4 cp W1.heap.size [5, 128, 1, 7] J Jx Jp (by omega) rfl (fun i W hJ => ⟨(hJI i W hJ).2.blk HA4.out.b (by show ¬ Bp = sb; omega), HA4.out.r.upd (hJI i W hJ).2 (fun ad e => by have := (HA5.out ad e).1; rw [World.size_alloc] at this; show ¬ ad.block = sb; omega)⟩) hst (by rw [all_lit]; exact hY) W1 h0
              rw [all_lit] at this
              exact this
            · rintro l o i W' hi ⟨h1, hu⟩ hl ho hc
              rcases (show i = 0 ∨ i = 1 ∨ i = 2 by omega) with rfl | rfl | rfl
              all_goals
                simp only [List.getD_eq_getElem?_getD, List.length_cons, List.length_nil, Nat.reduceAdd, Nat.reduceLT, List.getElem?_cons_zero, List.getElem?_cons_succ, Option.getD_some] at h1 ⊢
                dsimp only [encAt]
                gi_wp2
                refine ⟨KeepsOthers.refl _, fun W5 hb5 => ?_⟩
                have h1 := h1.bk hb5
                have hu := hu.bk hb5
                have c11 := blk_cell h1 0
                have f11 := blk_frozen h1 0
                simp at c11
                have H1 := Hd.mk h1
                have HU := Hd.mk hu
                clear h1 hu
                gi_wp2
                exact ⟨KeepsOthers.setCell _ _ _, H1.out.set _, HU.out.set1 0 _⟩
            · intro D3 W4 hD3 ⟨h1, hu⟩ hd3
              have HNW := Hd.mk (HN4.out.lo (Lo.of_upd hu (fun k hk => by have := HN4.out.sz; have := HN4.out.be.size; omega)))
              have c4 := blk_cell HNW.out.rs 0
              have f4 := blk_frozen HNW.out.rs 0
              have c11 := blk_cell h1 0
              simp at c4 c11
              have HD5 := Hd.mk (hu.blk HD4.out (by show ¬ D = sb; omega))
              have HE5 := Hd.mk (hu.blk HE4.out (by show ¬ D2 = sb; omega))
              have HF5 := Hd.mk hd3
              clear h1 hu hd3
              go_wp2_with fail
              have hne1 : D ≠ D2 := by omega
              have hne2 : D ≠ D3 := by omega
              have hne3 : D2 ≠ D3 := by omega
              have hn4 := HNW.out.sz
              have hbe := HNW.out.be.size
              exact leave3 (w0 := w) (by omega) HF5.out HE5.out HD5.out hne3 hne2 hne1 HNW.out.be HNW.out.rs rfl (by omega) (by omega) (by omega)
    · obtain ⟨k, rfl⟩ : ∃ k, gk = k + 1 := ⟨gk - 1, by omega⟩
      obtain ⟨hc1, hf1⟩ := own_at HOr.out (j : Int) (by omega) (by have := HYL.out; omega)
      rw [Int.toNat_natCast, rd_gb] at hc1
      rw [Int.toNat_natCast] at hf1
      have hjl : j < n + 5 := by omega
      have hst := (own_store HOr.out (j : Int) 3).1
      rw [Int.toNat_natCast] at hst
      have HST := Hd.mk hst
      clear hst
      go_wp2
      go_roundg k
      case measure => omega
      case rel => exact ⟨j + 1, ys.set j 3, by go_num, by omega, ⟨by rw [List.length_set]; exact HYL.out⟩, HST, ⟨HU.out.set1 j _⟩⟩
end Go.Proofs.Ytpjfepeedfbpfaa
