/- cutter: Cut of the document's first example, by contract; lives. -/
import Derived.Test.YtinlfoblpgpikaaZ3
import Derived.Test.YtinlfoblpgpikaaZ2
namespace Go.Proofs.Ytinlfoblpgpikaa
open Go.RowKit Go.Shelf Go.Proofs.YtinlfoblpgpikaaW.PrintWords Go.Proofs.YtinlfoblpgpikaaW.PrintLast Go.Proofs.YtinlfoblpgpikaaW.PrintMore Go.Proofs.Ytinlfoblpgpikaa.Pr
set_option linter.unusedVariables false
set_option linter.unusedSimpArgs false
attribute [local go_sem] Oper.semAt_some
theorem og70 : og [⟨70, 0, 0⟩] (List.replicate 70 0) [] 0 = (List.range 70).map (fun (i : Nat) => (⟨true, (i : Int), 0⟩ : S94)) := by
  simp only [og, List.take_nil, List.map_nil, List.append_nil]
  apply List.map_congr_left
  intro i hi
  have := List.mem_range.1 hi
  rw [w64 _ (by omega), Int.zero_add, List.getD_eq_getElem?_getD, List.getElem?_replicate, if_pos (by omega)]
  rfl
theorem og70_at {i : Nat} (h : i < 70) : (og [⟨70, 0, 0⟩] (List.replicate 70 0) [] 0).getD i z94 = ⟨true, (i : Int), 0⟩ := by
  rw [og70, List.getD_eq_getElem?_getD, List.getElem?_map, List.getElem?_range h]
  rfl
/-- The window that is being made, k windows behind the first, r bytes in. -/
def WinAt (k r : Nat) (sl : List S82) (dl : List Int) (a : Wx) : Prop :=
  (r = 0 ∧ sl = [] ∧ dl = [] ∧ a = ⟨0, 0, 0, false⟩) ∨ (0 < r ∧ sl = [⟨r, 0, 0⟩] ∧ dl.length = r ∧ a = ⟨64 * (k : Int), r, 64 * (k : Int) + r, true⟩)
structure CI (w0 : World) (Bl Bm : Nat) (X : List (Nat × Obj)) (i : Nat) (W : World) (v : Value) (cs : List Value) (k r : Nat) (s d x : Value) (sl : List S82) (dl : List Int) (a : Wx) : Prop where
  b : CB w0 Bl Bm X W v cs k s d x sl dl [] a
  hi : i = 64 * k + r
  hr : r < 64
  w : WinAt k r sl dl a
  c0 : 0 < k → cs[0]? = some (.int .i64 0)
theorem leaveCut {tmps : Array Value} {W : World} {R : Ending → World → Prop} {v u : Value} (h4 : tmps.getD 4 undef = v) (h5 : tmps.getD 5 undef = u) (h : R (.returned (.tuple #[v, u])) W) :
    LeavesInM Fence.wide 0 Try.prog Try.f13 tmps R [] .returning W := by
  refine ⟨.tuple #[v, u], ?_, h⟩
  have h4' : tmps[4]?.getD undef = v := by simpa using h4
  have h5' : tmps[5]?.getD undef = u := by simpa using h5
  simp [results, Try.results13, go_sem, h4', h5']
/-- take, of the example's next byte. -/
theorem took {w : World} {W : World} {Bl Bm : Nat} {X : List (Nat × Obj)} {v : Value} {cs : List Value} {s d x : Value} {sl : List S82} {dl : List Int} {a : Wx} {k r : Nat} (h : CB w Bl Bm X W v cs k s d x sl dl [] a) (hw : WinAt k r sl dl a) (hr : r < 64) (hk : k ≤ 1000) (p : Int) (hp : p = 64 * (k : Int) + r) :
    Calls Try.prog 42 #[.pointer (some ⟨Bm, 0, none⟩), .agg #[.bool true, .int .i64 p, .int .u8 0]] W (fun e w' => e = .returned (.tuple #[]) ∧ ∃ s3 d3 x3 sl3 dl3, sl3 = [(⟨(r : Int) + 1, 0, 0⟩ : S82)] ∧ dl3.length = r + 1 ∧
      Mq w.heap.size W (MS Bm s d x) ((Bl, .cells #[v] 31) :: X) W w' Bm s3 d3 x3 sl3 dl3 [] ⟨64 * (k : Int), (r : Int) + 1, 64 * (k : Int) + r + 1, true⟩) := by
  subst hp
  rcases hw with ⟨hr0, rfl, rfl, rfl⟩ | ⟨hr0, rfl, hdl, rfl⟩
  · refine (take_p3 w.heap.size W (MS Bm s d x) _ W Bm s d x [] [] 0 0 0 (64 * (k : Int) + r) 0 [] 0 h.mq (by simp) (by simp) (by omega) (by omega) (by simp) rfl).mono ?_
    rintro e w' ⟨he, s3, d3, x3, hq⟩
    have e1 : (64 * (k : Int) + r) = 64 * (k : Int) := by omega
    have e2 : (r : Int) = 0 := by omega
    refine ⟨he, s3, d3, x3, [] ++ [⟨0 + 1, 0, 0⟩], [] ++ [0], ?_, ?_, ?_⟩
    rotate_left 2
    · have e3 : (⟨64 * (k : Int) + r, 0 + 1, 64 * (k : Int) + r + 1, true⟩ : Wx) = ⟨64 * (k : Int), (r : Int) + 1, 64 * (k : Int) + r + 1, true⟩ := by rw [e2]; simp
      rw [e3] at hq
      exact hq
    · rw [e2]; rfl
    · simp; omega
  · refine (take_p4 w.heap.size W (MS Bm s d x) _ W Bm s d x dl [] (64 * (k : Int)) r (64 * (k : Int) + r) (64 * (k : Int) + r) 0 [] r h.mq (by omega) (by simp) (by omega) (by omega) (by simp) (by omega) rfl).mono ?_
    rintro e w' ⟨he, s3, d3, x3, hq⟩
    refine ⟨he, s3, d3, x3, [] ++ [⟨(r : Int) + 1, 0, 0⟩], dl ++ [0], ?_, ?_, hq⟩
    · rfl
    · simp [hdl]
attribute [-go_sem] Builtin.append_
set_option maxRecDepth 100000 in
set_option maxHeartbeats 8000000 in
theorem cut70 {A0 : Option Addr} {c0 : Nat} {st : List S82} {A1 : Option Addr} {c1 : Nat} {d : List Int} {A2 : Option Addr} {c2 : Nat} {x : List Int} {w : World} (hE : EdC w A0 c0 st A1 c1 d A2 c2 x) (hst : st = [⟨70, 0, 0⟩]) (hd : d = List.replicate 70 0) (hx : x = []) :
    Calls Try.prog 13 #[.agg #[.slice A0 st.length c0, .slice A1 d.length c1, .slice A2 x.length c2], .int .i64 64] w fun e w' => ∃ (A : Option Addr) (c : Nat) (cs : List Value) (A3 : Option Addr) (c3 : Nat) (A4 : Option Addr) (c4 : Nat) (A5 : Option Addr) (c5 : Nat) (sl : List S82) (dl : List Int), e = .returned (.tuple #[.slice A 2 c, .int .i64 0]) ∧ sl = [(⟨6, 0, 0⟩ : S82)] ∧ dl.length = 6 ∧
      w'.ownsRow w.heap.size 43 4 (.slice A 2 c) 2 (cs ++ winC ⟨64, 6, 70, true⟩ (.slice A3 sl.length c3) (.slice A4 dl.length c4) (.slice A5 0 c5)) ∧ cs.length = 4 ∧ cs[0]? = some (.int .i64 0) ∧ w'.ownsRow w.heap.size 82 3 (.slice A3 sl.length c3) sl.length (cells82 sl) ∧ Below w.heap.size w w' := by
  have hck : ∃ k, edit_Check.f k st d x 16777216 ((d.length : Int) + (x.length : Int)) = some 0 := by
    obtain ⟨k, hk⟩ := check_f st d x 16777216 ((d.length : Int) + (x.length : Int)) hE.s.2.1
    refine ⟨k, hk.trans ?_⟩
    subst hst
    subst hd
    subst hx
    simp [checked, ited, may, sA, sC, rds, wrap64]
  have hbd : d.length ≤ 70 ∧ x.length ≤ 70 := by subst hd; subst hx; simp
  have hm : st.all may = true ∧ sA st = d.length ∧ sC st = x.length := by subst hst; subst hd; subst hx; decide
  have hL : (og st d x 0).length = 70 ∧ ∀ i, i < 70 → (og st d x 0).getD i z94 = ⟨true, (i : Int), 0⟩ := by
    subst hst
    subst hd
    subst hx
    refine ⟨by rw [og70]; simp, fun i hi => og70_at hi⟩
  clear hst hd hx
  obtain ⟨kk, hck⟩ := hck
  have hb0 : Below w.heap.size w ((w.alloc (.cells #[.slice A0 st.length c0, .slice A1 d.length c1, .slice A2 x.length c2] 29)).alloc (.cells #[.int .i64 64] 3)) := ((Below.refl _ _).alloc (Nat.le_refl _) _).alloc (by simp) _
  have hY : ((w.alloc (.cells #[.slice A0 st.length c0, .slice A1 d.length c1, .slice A2 x.length c2] 29)).alloc (.cells #[.int .i64 64] 3)).heap[w.heap.size]? = some (.cells #[.slice A0 st.length c0, .slice A1 d.length c1, .slice A2 x.length c2] 29 (0, 0)) := blk_alloc (blk_new w _) _
  have hV : ((w.alloc (.cells #[.slice A0 st.length c0, .slice A1 d.length c1, .slice A2 x.length c2] 29)).alloc (.cells #[.int .i64 64] 3)).heap[w.heap.size + 1]? = some (.cells #[.int .i64 64] 3 (0, 0)) := by
    have := blk_new (w.alloc (.cells #[.slice A0 st.length c0, .slice A1 d.length c1, .slice A2 x.length c2] 29)) (.cells #[.int .i64 64] 3)
    rwa [World.size_alloc] at this
  have HE := Hd.mk (hE.below hb0)
  have HEw := Hd.mk hE
  have HB := Hd.mk hb0
  have HY := Hd.mk hY
  have HV := Hd.mk hV
  have HCK := Hd.mk (edit_Check.calls kk A0 c0 st A1 c1 d A2 c2 x 16777216 ((d.length : Int) + (x.length : Int)) 0 _ HE.out.s HE.out.hs HE.out.di HE.out.hd HE.out.ex HE.out.hx hck)
  have HM := Hd.mk hm
  have HL := Hd.mk hL
  have hbd1 := hbd.1
  have hbd2 := hbd.2
  clear hE hb0 hY hV hck hm hL hbd
  have cHY0 := blk_cell HY.out 0
  have cHY1 := blk_cell HY.out 1
  have cHY2 := blk_cell HY.out 2
  have cHV0 := blk_cell HV.out 0
  simp at cHY0 cHY1 cHY2 cHV0
  refine callsIn_wide.1 (callsIn_of_wp_marks (n := 0) Try.func13 rfl trivial (wpIn_wide.2 ?_) rfl)
  simp only [Try.ntmps13, List.size_toArray, List.length_cons, List.length_nil, Nat.reduceAdd, Nat.reduceSub, Array.replicate_succ, Array.replicate_zero, List.push_toArray, List.append_toArray, List.nil_append, List.cons_append]
  go_wp2_with fail
  refine HCK.out.mono ?_
  rintro e w1 ⟨rfl, hb1⟩
  clear HCK
  clear cHY0 cHY1 cHY2 cHV0
  replace HB := Hd.mk (below_step HB.out hb1)
  replace HE := Hd.mk (HE.out.below hb1)
  replace HY := Hd.mk (blk_below HY.out hb1)
  replace HV := Hd.mk (blk_below HV.out hb1)
  have cHY0 := blk_cell HY.out 0
  have cHY1 := blk_cell HY.out 1
  have cHY2 := blk_cell HY.out 2
  have cHV0 := blk_cell HV.out 0
  simp at cHY0 cHY1 cHY2 cHV0
  clear hb1
  have hs1 := HB.out.size
  have hlV := blk_lt HV.out
  have hlY := blk_lt HY.out
  have hba : Below w1.heap.size w1 ((w1.alloc (.cells #[.slice none 0 0] 31)).alloc (.cells #[.int .i64 0, .slice none 0 0, .slice none 0 0, .slice none 0 0, .int .i64 0, .int .i64 0, .bool false] 86)) := ((Below.refl _ _).alloc (Nat.le_refl _) _).alloc (by simp) _
  have HWC := Hd.mk (ways_calls A0 c0 st A1 c1 d A2 c2 x _ (HE.out.below hba))
  have HBA := Hd.mk hba
  clear hba
  go_wp2_with fail
  refine HWC.out.mono ?_
  rintro e w4 ⟨Be, rfl, hEB, hb4, hBe⟩
  have hbx := blk_below (blk_new (w1.alloc (.cells #[.slice none 0 0] 31)) (.cells #[.int .i64 0, .slice none 0 0, .slice none 0 0, .slice none 0 0, .int .i64 0, .int .i64 0, .bool false] 86)) hb4
  have hbl := blk_below (blk_alloc (blk_new w1 (.cells #[.slice none 0 0] 31)) (.cells #[.int .i64 0, .slice none 0 0, .slice none 0 0, .slice none 0 0, .int .i64 0, .int .i64 0, .bool false] 86)) hb4
  rw [World.size_alloc] at hbx
  simp only [World.size_alloc] at hBe
  have hbe := below_step (below_step HB.out HBA.out) hb4
  have hV4 := blk_below (blk_below HV.out HBA.out) hb4
  obtain ⟨Bl, hBl⟩ : ∃ b, w1.heap.size = b := ⟨_, rfl⟩
  obtain ⟨Bm, hBm⟩ : ∃ b, w1.heap.size + 1 = b := ⟨_, rfl⟩
  obtain ⟨Bs, hBs⟩ : ∃ b, w.heap.size + 1 = b := ⟨_, rfl⟩
  clear cHY0 cHY1 cHY2 cHV0
  rw [hBm] at hbx ⊢
  rw [hBl] at hbl hlV hBe ⊢
  rw [hBs] at hV4 hlV ⊢
  have hbm1 : Bm = Bl + 1 := by omega
  have hwl : w.heap.size ≤ Bl := by omega
  have H0 : Hd (CB w Bl Bm ([] ++ [(Be, .cells #[.slice A0 st.length c0, .slice A1 d.length c1, .slice A2 x.length c2] 29), (Bs, .cells #[.int .i64 64] 3)]) w4 (.slice none 0 0) [] 0 (.slice none 0 0) (.slice none 0 0) (.slice none 0 0) [] [] [] ⟨0, 0, 0, false⟩) := by
    refine ⟨hbl, hwl, own_nil _ _ _ _, ⟨hbx, by omega, own_nil _ _ _ _, own_nil _ _ _ _, own_nil _ _ _ _, fun g e => by cases e⟩, fun q hq => ?_, hbe⟩
    simp only [List.nil_append, List.mem_cons, List.not_mem_nil, or_false] at hq
    have nm : ∀ b : Nat, b ≠ Bm → ¬ MS Bm (.slice none 0 0) (.slice none 0 0) (.slice none 0 0) b := fun b hb hk => by
      rcases hk with hk | hk | hk | hk
      · exact hb hk
      · cases hk
      · cases hk
      · cases hk
    rcases hq with rfl | rfl
    · exact ⟨hEB.b, rfl, by simp only; omega, nm _ (by simp only; omega), fun e => by cases e⟩
    · exact ⟨hV4, rfl, by simp only; omega, nm _ (by simp only; omega), fun e => by cases e⟩
  have hw4 := hbe.size
  obtain ⟨L, hL0⟩ : ∃ L, og st d x 0 = L := ⟨_, rfl⟩
  have hLL := HL.out
  have hMM := HM.out
  rw [hL0] at hLL
  have HLL := Hd.mk hLL
  have HL0 := Hd.mk hL0
  have HEB := Hd.mk hEB.r
  clear hbx hbl hbe hV4 hEB hb4 HBA HWC hL0 hLL HL HB HE HY HV hBl hBm hBs hBe hlV hlY hs1 hMM hbm1
  go_wp2_with fail
  refine (wpIn_wide (n := 0)).1 ?_
  refine wp_rangeX (F := Fence.wide) rfl rfl (gf := 61) (lb := #[.pointer (some ⟨Be, 0, none⟩)]) rfl trivial (enters_of Try.func61 (by kernel_rfl) rfl) (fun i => #[enc91 (L.getD i z94)]) (fun _ => rfl) L.length
    (fun X i W => ∃ v cs k r s' d' x' sl dl a, CI w Bl Bm (X ++ [(Be, .cells #[.slice A0 st.length c0, .slice A1 d.length c1, .slice A2 x.length c2] 29), (Bs, .cells #[.int .i64 64] 3)]) i W v cs k r s' d' x' sl dl a) (fun _ _ => False) (fun _ _ => False) (.inl fun _ _ h => h)
    ⟨_, [], 0, 0, _, _, _, [], [], _, ⟨H0.out, rfl, by omega, .inl ⟨rfl, rfl, rfl, rfl⟩, fun h => absurd h (by omega)⟩⟩
    (fun X i W W' h k => by obtain ⟨v, cs, k', r, s', d', x', sl, dl, a, h⟩ := h; exact ⟨v, cs, k', r, s', d', x', sl, dl, a, ⟨h.b.bk hw4 k, h.hi, h.hr, h.w, h.c0⟩⟩)
    (fun X i W o ho h => by obtain ⟨v, cs, k', r, s', d', x', sl, dl, a, h⟩ := h; exact ⟨v, cs, k', r, s', d', x', sl, dl, a, ⟨h.b.grow o ho, h.hi, h.hr, h.w, h.c0⟩⟩) (fun _ _ _ h _ => h) (fun _ _ _ h _ => h) ?seq ?round ?done (fun _ _ _ _ h _ => h.elim) (fun _ _ _ _ h _ => h.elim)
  case seq =>
    intro l W1 J Jx Jp hb1 hl hl2 hJI hGr hst _ _ hY h0
    have := ways1_in (fun _ => True) trivial l Be W1.heap.size A0 c0 st A1 c1 d A2 c2 x J Jx Jp HM.out.1 HM.out.2.1 HM.out.2.2 (by omega) (by omega) (fun X i W hJ => by
      obtain ⟨v, cs, k', r, s', d', x', sl, dl, a, h⟩ := hJI X i W hJ
      exact ⟨⟨(h.b.fx _ (List.mem_append_right _ List.mem_cons_self)).1, HEw.out.below h.b.be⟩, fun q hq => (h.b.fx q (List.mem_append_left _ hq)).1⟩) hGr hst (by rw [HL0.out]; exact hY) W1 h0
    rw [HL0.out] at this
    exact this
  case round =>
    rintro X l o i W hi ⟨v, cs, k, r, s', d', x', sl, dl, a, hCI⟩ hl ho hc
    have hg : L.getD i z94 = ⟨true, ((64 * k + r : Nat) : Int), 0⟩ := by rw [HLL.out.2 i (by rw [← HLL.out.1]; exact hi), hCI.hi]
    have hi70 : i < 70 := by rw [← HLL.out.1]; exact hi
    have hkr := hCI.hi
    have hr64 := hCI.hr
    simp only [hg]
    dsimp only [enc91]
    obtain ⟨p, hp⟩ : ∃ p : Int, ((64 * k + r : Nat) : Int) = p := ⟨_, rfl⟩
    have hp2 : p = 64 * (k : Int) + r := by omega
    rw [hp]
    have HC := Hd.mk hCI
    have HP2 := Hd.mk hp2
    clear hp hp2
    clear hCI hg ho hl hc hi
    gi_wp2
    refine ⟨KeepsOthers.alloc _ _, fun W2 hb2 => ?_⟩
    have h2 := (HC.out.b.grow (.cells #[.bool true, .int .i64 p, .int .u8 0] 91) rfl).bk hw4 hb2
    have h9 := (h2.fx _ (List.mem_cons_self)).1
    have c90 := blk_cell h9 0
    have c91 := blk_cell h9 1
    have c92 := blk_cell h9 2
    simp at c90 c91 c92
    have HT := Hd.mk (took h2 HC.out.w hr64 (by omega) p HP2.out)
    have H2 := Hd.mk h2
    clear h2 h9 hb2
    gi_wp2_with fail
    refine ⟨trivial, rfl, ?_⟩
    refine CallsIn.mono (F := Fence.wide) (n := 0) (callsIn_wide.2 HT.out) ?_
    rintro e W3 ⟨rfl, s3, d3, x3, sl3, dl3, hsl3, hdl3, hq⟩
    have h3 := (H2.out.took hq).less (X' := X ++ [(Be, .cells #[.slice A0 st.length c0, .slice A1 d.length c1, .slice A2 x.length c2] 29), (Bs, .cells #[.int .i64 64] 3)]) (fun q hq => List.mem_cons_of_mem _ hq)
    have HKO := Hd.mk hq.ko
    obtain ⟨B0, b0, B1, b1, B2, b2, rfl, rfl, rfl⟩ := h3.forms
    obtain ⟨Av, cv, rfl⟩ := own_slice h3.row
    have cs0 := blk_cell (h3.fx (Bs, .cells #[.int .i64 64] 3) (by simp)).1 0
    have cl0 := blk_cell h3.lb 0
    have cm0 := blk_cell h3.m.b 0
    have cm1 := blk_cell h3.m.b 1
    have cm2 := blk_cell h3.m.b 2
    have cm3 := blk_cell h3.m.b 3
    have cm4 := blk_cell h3.m.b 4
    simp at cs0 cl0 cm0 cm1 cm2 cm3 cm4
    have H3 := Hd.mk h3
    have HSL := Hd.mk hsl3
    have HDL := Hd.mk hdl3
    clear c90 c91 c92 HT H2 hq h3 hsl3 hdl3
    by_cases hf : r = 63
    · subst hf
      obtain ⟨v5, w5, hrun, hlb5, hko5, h5⟩ := H3.out.push (by omega)
      obtain ⟨Aw, cw, rfl⟩ := own_slice h5.row
      obtain ⟨hko6, h6⟩ := h5.reset
      have cl5 := blk_cell hlb5 0
      have fl5 := blk_frozen hlb5 0
      have f0 := blk_frozen h5.m.b 0
      have f1 := blk_frozen h5.m.b 1
      have f2 := blk_frozen h5.m.b 2
      have f3 := blk_frozen h5.m.b 3
      have f4 := blk_frozen h5.m.b 4
      have f5 := blk_frozen h5.m.b 5
      have f6 := blk_frozen h5.m.b 6
      have d0 := blk_cell h5.m.b 0
      have d1 := blk_cell h5.m.b 1
      have d2 := blk_cell h5.m.b 2
      have d3 := blk_cell h5.m.b 3
      have d4 := blk_cell h5.m.b 4
      have d5 := blk_cell h5.m.b 5
      have d6 := blk_cell h5.m.b 6
      simp at cl5 d0 d1 d2 d3 d4 d5 d6
      have H6 := Hd.mk h6
      have HK := Hd.mk ((HKO.out.trans hko5).trans hko6)
      have hrl := H3.out.row.1
      have hc0 := HC.out.c0
      have HC0 := Hd.mk (show 0 < k + 1 → (cs ++ winC ⟨64 * (k : Int), ((63 : Nat) : Int) + 1, 64 * (k : Int) + ((63 : Nat) : Int) + 1, true⟩ (.slice B0 sl3.length b0) (.slice B1 dl3.length b1) (.slice B2 ([] : List Int).length b2))[0]? = some (.int .i64 0) by
        intro _
        rcases Nat.eq_zero_or_pos k with hk | hk
        · subst hk
          have : cs = [] := List.eq_nil_of_length_eq_zero (by omega)
          subst this
          simp [winC]
        · rw [List.getElem?_append_left (by omega)]
          exact hc0 hk)
      simp only [List.length_nil] at hrun
      clear hlb5 hko5 h5 hko6 h6 hrl hc0 HKO
      gi_wp2
      refine ⟨HK.out, _, _, k + 1, 0, _, _, _, [], [], _, ⟨H6.out, by omega, by omega, .inl ⟨rfl, rfl, rfl, rfl⟩, HC0.out⟩⟩
    · have hne : ((r : Int) + 1 == 64) = false := by simp; omega
      clear cm0 cm1 cm2 cm3 cl0
      gi_wp2
      refine ⟨HKO.out, _, cs, k, r + 1, _, _, _, sl3, dl3, _, ⟨H3.out, by omega, by omega, .inr ⟨by omega, ?_, HDL.out, ?_⟩, HC.out.c0⟩⟩
      · rw [HSL.out, show ((r + 1 : Nat) : Int) = (r : Int) + 1 by omega]
      · rw [show ((r + 1 : Nat) : Int) = (r : Int) + 1 by omega, Int.add_assoc]
  case done =>
    rintro X D W hD ⟨v, cs, k, r, s', d', x', sl, dl, a, hCI⟩ hd
    have hN := hCI.hi
    rw [HLL.out.1] at hN
    have hr := hCI.hr
    obtain rfl : k = 1 := by omega
    obtain rfl : r = 6 := by omega
    have hw := hCI.w
    rcases hw with ⟨h0, _⟩ | ⟨_, hsl, hdl, ha⟩
    · omega
    have h3 := hCI.b
    have ha2 : a = ⟨64, 6, 70, true⟩ := by rw [ha]; rfl
    subst ha2
    have hsl2 : sl = [(⟨6, 0, 0⟩ : S82)] := by rw [hsl]; rfl
    obtain ⟨B0, b0, B1, b1, B2, b2, rfl, rfl, rfl⟩ := h3.forms
    obtain ⟨Av, cv, rfl⟩ := own_slice h3.row
    obtain ⟨v5, w5, hrun, hlb5, hko5, h5⟩ := h3.push (by omega)
    obtain ⟨Aw, cw, rfl⟩ := own_slice h5.row
    have cl0 := blk_cell h3.lb 0
    have cm0 := blk_cell h3.m.b 0
    have cm1 := blk_cell h3.m.b 1
    have cm2 := blk_cell h3.m.b 2
    have cm3 := blk_cell h3.m.b 3
    have cm4 := blk_cell h3.m.b 4
    have cl5 := blk_cell hlb5 0
    have fl5 := blk_frozen hlb5 0
    have cl6 := blk_cell h5.lb 0
    simp at cl0 cm0 cm1 cm2 cm3 cm4 cl5 cl6
    simp only [List.length_nil] at hrun
    have H5 := Hd.mk h5
    have HSL := Hd.mk hsl2
    have HDL := Hd.mk hdl
    have HC0 := Hd.mk (hCI.c0 (by omega))
    have HRL := Hd.mk h3.row.1
    have HDS := Hd.mk (hko5.same D _ hd rfl)
    clear hCI hd hN hr hsl hdl ha h3 hlb5 hko5 h5 hsl2
    go_wp2
    have hpk := Bk.putObj (n := w.heap.size) (o' := .deferred none) (by omega) HDS.out rfl
    have h5 := H5.out
    refine ⟨by simp, .inl ⟨_, _, rfl, run_takeDeferred HDS.out, leaveCut rfl rfl ⟨Aw, cw, cs, B0, b0, B1, b1, B2, b2, sl, dl, rfl, HSL.out, HDL.out, own_bk h5.row hpk, HRL.out, HC0.out, own_bk h5.m.rs hpk, Bk.below h5.be h5.be.size hpk⟩⟩⟩
end Go.Proofs.Ytinlfoblpgpikaa
