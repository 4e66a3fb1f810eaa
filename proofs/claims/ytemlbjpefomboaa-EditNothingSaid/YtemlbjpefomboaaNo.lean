/- edit: Normal by contract, the program's and the document's. -/
import Derived.Test.YtemlbjpefomboaaNl
namespace Go.Proofs.Ytemlbjpefomboaa
open Go.RowKit Go.Shelf Go.Proofs.YtemlbjpefomboaaW.PrintWords Go.Proofs.YtemlbjpefomboaaW.PrintLast Go.Proofs.YtemlbjpefomboaaW.PrintMore Go.Proofs.Ytemlbjpefomboaa.Pr
set_option linter.unusedVariables false
set_option linter.unusedSimpArgs false
theorem yieldAt_mono {F : Fence} {m : Nat} {P : Program} {l : Nat} {args : Array Value} {W : World} {R R' : Ending → World → Prop} (h : YieldAt F m P l args W R) (hr : ∀ e w', R e w' → R' e w') : YieldAt F m P l args W R' := by
  obtain ⟨fn, tmps, assign, body, h1, h2⟩ := h
  exact ⟨fn, tmps, assign, body, h1, h2.mono hr⟩
theorem iter_og {w : World} {Be : Nat} {A0 : Option Addr} {c0 : Nat} {st : List S80} {A1 : Option Addr} {c1 : Nat} {d : List Int} {A2 : Option Addr} {c2 : Nat} {x : List Int} (hE : EdB w Be A0 c0 st A1 c1 d A2 c2 x) (hm : st.all may = true) (hda : sA st = d.length) (hxc : sC st = x.length) :
    IterOf w 68 #[.pointer (some ⟨Be, 0, none⟩)] (og st d x 0) := by
  intro l n1 J Jx Jp hJ hG hst _ _ hY W hn h0
  replace hY := fun X i W h1 h2 => yieldAt_mono (hY X i W h1 h2) (fun e W' h => h.1)
  exact org1_in EX ⟨_, Try.func68⟩ l Be n1 A0 c0 st A1 c1 d A2 c2 x J Jx Jp hm hda hxc (fun X i W h => by
    obtain ⟨h1, h2⟩ := hJ X i W h
    exact ⟨⟨blk_below hE.b h1, hE.r.below h1⟩, h2⟩) hG hst hY W h0
/-- What Normal answers. -/
def normalE (st : List S80) (d x : List Int) : List S80 × List Int × List Int × Int :=
  if (ited st d x).2 ≠ 0 then ([], [], [], (ited st d x).2) else normOf (og st d x 0)
theorem og_fit {st : List S80} {d x : List Int} (h : (ited st d x).2 = 0) : (og st d x 0).length ≤ 16777216 := by
  have h1 := ited_all h
  have := og_len st d x 0 h1.1 h1.2.2.1 h1.2.2.2.1
  have := h1.2.1
  omega
theorem R_store3 {α : Type} {d : Kd α} {e : Nat} {w3 : World} {n m b : Nat} {ok : Nat → Prop} {v : Value} {l : List α} (h : d.R e w3 n ok v l) (hb : b < n) (hm : m ≤ n) (s0 s1 s2 : Value) :
    d.R e (((w3.setCell ⟨b, 0, none⟩ s0).setCell ⟨b, 1, none⟩ s1).setCell ⟨b, 2, none⟩ s2) m ok v l := by
  refine Kd.R_lower (Kd.R_mono (Kd.R_step (Kd.R_bound h) (fun k hk _ => ?_)) (fun k hk => hk.1)) hm
  have hne : k ≠ b := by have := hk.2.1; omega
  exact (Below.heap_setCell _ _ _ k hne).trans ((Below.heap_setCell _ _ _ k hne).trans (Below.heap_setCell _ _ _ k hne))
theorem normR_fin {w w2 w3 : World} {b : Nat} {v0 v1 v2 : Value} {l0 : List S80} {l1 l2 : List Int} {c : Int} (hb : w.heap.size ≤ b) (hb2 : b < w2.heap.size) (hbe : Below w.heap.size w w3)
    (r0 : Kd.R k80 80 w3 w2.heap.size (fun _ => True) v0 l0) (r1 : Kd.R (Kd.int .u8) 5 w3 w2.heap.size (fun k_ => some k_ ≠ (v2 : Value).ownBlock) v1 l1) (r2 : Kd.R (Kd.int .u8) 5 w3 w2.heap.size (fun k_ => some k_ ≠ (v1 : Value).ownBlock) v2 l2) (s0 s1 s2 : Value) :
    NormR w (l0, l1, l2, c) (.returned (.tuple #[.agg #[v0, v1, v2], .int .i64 c])) (((w3.setCell ⟨b, 0, none⟩ s0).setCell ⟨b, 1, none⟩ s1).setCell ⟨b, 2, none⟩ s2) :=
  ⟨v0, v1, v2, rfl, R_store3 r0 hb2 (by omega) _ _ _, R_store3 r1 hb2 (by omega) _ _ _, R_store3 r2 hb2 (by omega) _ _ _, ((hbe.setCell hb _).setCell hb _).setCell hb _⟩
theorem normR_bad {w w3 : World} {b : Nat} {c : Int} (hb : w.heap.size ≤ b) (hbe : Below w.heap.size w w3) (s0 s1 s2 : Value) :
    NormR w ([], [], [], c) (.returned (.tuple #[.agg #[.slice none 0 0, .slice none 0 0, .slice none 0 0], .int .i64 c])) (((w3.setCell ⟨b, 0, none⟩ s0).setCell ⟨b, 1, none⟩ s1).setCell ⟨b, 2, none⟩ s2) :=
  ⟨_, _, _, rfl, R80_nil _ _, Kd.R_nil _ _ _ _ _, Kd.R_nil _ _ _ _ _, ((hbe.setCell hb _).setCell hb _).setCell hb _⟩
theorem blk3 {w : World} {b : Nat} {u0 u1 u2 : Value} {t : TypeId} (h : w.heap[b]? = some (.cells #[u0, u1, u2] t (0, 0))) (s0 s1 s2 : Value) :
    (((w.setCell ⟨b, 0, none⟩ s0).setCell ⟨b, 1, none⟩ s1).setCell ⟨b, 2, none⟩ s2).heap[b]? = some (.cells #[s0, s1, s2] t (0, 0)) := by
  have := blk_set (blk_set (blk_set h 0 s0) 1 s1) 2 s2
  simpa using this
theorem leaveE {tmps : Array Value} {W : World} {R : Ending → World → Prop} {b : Nat} {v0 v1 v2 : Value} {u : Value} (h2 : tmps.getD 2 undef = .pointer (some ⟨b, 0, none⟩)) (h3 : tmps.getD 3 undef = u)
    (g : W.heap[b]? = some (.cells #[v0, v1, v2] 28 (0, 0))) (h : R (.returned (.tuple #[.agg #[v0, v1, v2], u])) W) : bodyPost Try.prog Try.f40 R .ret { tmps := tmps, defers := [] } W := by
  refine ⟨rfl, .tuple #[.agg #[v0, v1, v2], u], ?_, h⟩
  have h2' : tmps[2]?.getD undef = .pointer (some ⟨b, 0, none⟩) := by simpa using h2
  have h3' : tmps[3]?.getD undef = u := by simpa using h3
  have g0 : W.cell? ⟨b, 0, none⟩ = some v0 := (blk_cell g 0).trans rfl
  have g1 : W.cell? ⟨b, 1, none⟩ = some v1 := (blk_cell g 1).trans rfl
  have g2 : W.cell? ⟨b, 2, none⟩ = some v2 := (blk_cell g 2).trans rfl
  simp [results, Try.results40, go_sem, h2', h3', g0, g1, g2]
set_option maxRecDepth 100000 in
set_option maxHeartbeats 8000000 in
theorem normal_c {A0 : Option Addr} {c0 : Nat} {st : List S80} {A1 : Option Addr} {c1 : Nat} {d : List Int} {A2 : Option Addr} {c2 : Nat} {x : List Int} {w : World} (hE : EdC w A0 c0 st A1 c1 d A2 c2 x) :
    Calls Try.prog 40 #[EdV A0 st.length c0 A1 d.length c1 A2 x.length c2] w (NormR w (normalE st d x)) := by
  unfold EdV
  have hb0 : Below w.heap.size w ((w.alloc (.cells #[.slice A0 st.length c0, .slice A1 d.length c1, .slice A2 x.length c2] 28)).alloc (.cells #[.slice none 0 0, .slice none 0 0, .slice none 0 0] 28)) := ((Below.refl _ _).alloc (Nat.le_refl _) _).alloc (by simp) _
  have HE := Hd.mk (hE.below hb0)
  have HB := Hd.mk hb0
  have hY : ((w.alloc (.cells #[.slice A0 st.length c0, .slice A1 d.length c1, .slice A2 x.length c2] 28)).alloc (.cells #[.slice none 0 0, .slice none 0 0, .slice none 0 0] 28)).heap[w.heap.size]? = some (.cells #[.slice A0 st.length c0, .slice A1 d.length c1, .slice A2 x.length c2] 28 (0, 0)) := blk_alloc (blk_new w _) _
  have hT : ((w.alloc (.cells #[.slice A0 st.length c0, .slice A1 d.length c1, .slice A2 x.length c2] 28)).alloc (.cells #[.slice none 0 0, .slice none 0 0, .slice none 0 0] 28)).heap[w.heap.size + 1]? = some (.cells #[.slice none 0 0, .slice none 0 0, .slice none 0 0] 28 (0, 0)) := by
    have := blk_new (w.alloc (.cells #[.slice A0 st.length c0, .slice A1 d.length c1, .slice A2 x.length c2] 28)) (.cells #[.slice none 0 0, .slice none 0 0, .slice none 0 0] 28)
    rwa [World.size_alloc] at this
  have HY := Hd.mk hY
  have HT := Hd.mk hT
  have hit := itself_c HE.out
  obtain ⟨⟨n, er⟩, hie⟩ : ∃ r, ited st d x = r := ⟨_, rfl⟩
  have hne : normalE st d x = if er ≠ 0 then ([], [], [], er) else normOf (og st d x 0) := by unfold normalE; rw [hie]
  rw [hie] at hit
  have HIT := Hd.mk hit
  have HIE := Hd.mk hie
  have HNE := Hd.mk hne
  clear hb0 hE hY hT hit hie hne
  unfold EdV at HIT
  go_enter Try.func40, Try.ntmps40
  go_wp2_with fail
  refine HIT.out.mono ?_
  rintro e w1 ⟨rfl, hb1⟩
  clear HIT
  have cHY0 := blk_cell HY.out 0
  have cHY1 := blk_cell HY.out 1
  have cHY2 := blk_cell HY.out 2
  have cHT0 := blk_cell HT.out 0
  have cHT1 := blk_cell HT.out 1
  have cHT2 := blk_cell HT.out 2
  simp at cHY0 cHY1 cHY2 cHT0 cHT1 cHT2
  clear cHY0 cHY1 cHY2 cHT0 cHT1 cHT2
  replace HB := Hd.mk (below_step HB.out hb1)
  replace HE := Hd.mk (HE.out.below hb1)
  replace HY := Hd.mk (blk_below HY.out hb1)
  replace HT := Hd.mk (blk_below HT.out hb1)
  have cHY0 := blk_cell HY.out 0
  have cHY1 := blk_cell HY.out 1
  have cHY2 := blk_cell HY.out 2
  have cHT0 := blk_cell HT.out 0
  have cHT1 := blk_cell HT.out 1
  have cHT2 := blk_cell HT.out 2
  simp at cHY0 cHY1 cHY2 cHT0 cHT1 cHT2
  clear hb1
  have f0 := blk_frozen HT.out 0
  have f1 := blk_frozen HT.out 1
  have f2 := blk_frozen HT.out 2
  by_cases her : er = 0
  · subst her
    clear f0 f1 f2
    go_wp2_with fail
    refine (origins_calls A0 c0 st A1 c1 d A2 c2 x _ HE.out).mono ?_
    rintro e w2 ⟨Be, rfl, hEB, hb2, hBe⟩
    clear cHY0 cHY1 cHY2 cHT0 cHT1 cHT2
    replace HB := Hd.mk (below_step HB.out hb2)
    replace HE := Hd.mk (HE.out.below hb2)
    replace HY := Hd.mk (blk_below HY.out hb2)
    replace HT := Hd.mk (blk_below HT.out hb2)
    have cHY0 := blk_cell HY.out 0
    have cHY1 := blk_cell HY.out 1
    have cHY2 := blk_cell HY.out 2
    have cHT0 := blk_cell HT.out 0
    have cHT1 := blk_cell HT.out 1
    have cHT2 := blk_cell HT.out 2
    simp at cHY0 cHY1 cHY2 cHT0 cHT1 cHT2
    clear hb2
    have h2 : (ited st d x).2 = 0 := by rw [HIE.out]
    have h1 := ited_all h2
    have hno := calls_of_in (normal_in 68 #[.pointer (some ⟨Be, 0, none⟩)] (og st d x 0) w2 (og_fit h2) ⟨_, Try.func68⟩ (enters_of Try.func68 (by kernel_rfl) rfl) (iter_og hEB h1.1 h1.2.2.1 h1.2.2.2.1))
    have HNO := Hd.mk hno
    clear hno h1 h2 hEB
    go_wp2_with fail
    refine HNO.out.mono ?_
    rintro e w3 ⟨v0, v1, v2, rfl, r0, r1, r2, hb3⟩
    have hsz := HB.out.size
    have HSZ2 := Hd.mk (blk_lt HT.out)
    clear cHY0 cHY1 cHY2 cHT0 cHT1 cHT2
    replace HB := Hd.mk (below_step HB.out hb3)
    replace HE := Hd.mk (HE.out.below hb3)
    replace HY := Hd.mk (blk_below HY.out hb3)
    replace HT := Hd.mk (blk_below HT.out hb3)
    have cHY0 := blk_cell HY.out 0
    have cHY1 := blk_cell HY.out 1
    have cHY2 := blk_cell HY.out 2
    have cHT0 := blk_cell HT.out 0
    have cHT1 := blk_cell HT.out 1
    have cHT2 := blk_cell HT.out 2
    simp at cHY0 cHY1 cHY2 cHT0 cHT1 cHT2
    obtain ⟨q, hq⟩ : ∃ q, normOf (og st d x 0) = q := ⟨_, rfl⟩
    rw [hq] at r0 r1 r2 ⊢
    have HQ := Hd.mk hq
    obtain ⟨B0, e0, rfl⟩ := Kd.R_slice r0
    obtain ⟨B1, e1, rfl⟩ := Kd.R_slice r1
    obtain ⟨B2, e2, rfl⟩ := Kd.R_slice r2
    have f0 := blk_frozen HT.out 0
    have f1 := blk_frozen HT.out 1
    have f2 := blk_frozen HT.out 2
    have R0 := Hd.mk r0
    have R1 := Hd.mk r1
    have R2 := Hd.mk r2
    clear r0 r1 r2 hb3 hq HNO
    have hlt := blk_lt HT.out
    have HSZ := Hd.mk hsz
    clear hsz
    go_wp2_with fail
    refine leaveE (b := w.heap.size + 1) rfl rfl (blk3 HT.out _ _ _) ?_
    have hn := HNE.out
    rw [if_neg (by simp), HQ.out] at hn
    rw [hn]
    exact normR_fin (by omega) (by have := HSZ2.out; omega) HB.out R0.out R1.out R2.out _ _ _
  · have hne : (er != 0) = true := by simpa using her
    have hn := HNE.out
    rw [if_pos her] at hn
    have HN := Hd.mk hn
    have HER := Hd.mk her
    clear her hn HNE
    go_wp2
    refine leaveE (b := w.heap.size + 1) rfl rfl (blk3 HT.out _ _ _) ?_
    rw [HN.out]
    exact normR_bad (by omega) HB.out _ _ _
end Go.Proofs.Ytemlbjpefomboaa
