/- edit: Compose, by contract. -/
import Derived.Test.YtemlbjpefomboaaCx
import Derived.Test.YtemlbjpefomboaaRp
namespace Go.Proofs.Ytemlbjpefomboaa
open Go.RowKit Go.Shelf Go.Proofs.YtemlbjpefomboaaW.PrintWords Go.Proofs.YtemlbjpefomboaaW.PrintLast Go.Proofs.YtemlbjpefomboaaW.PrintMore Go.Proofs.Ytemlbjpefomboaa.Pr
set_option linter.unusedVariables false
set_option linter.unusedSimpArgs false
attribute [local go_sem] Oper.semAt_some
theorem collect_in {gf : Nat} {lb : Array Value} {L : List S94} {w : World} (hseq : IterK (fun W => Below w.heap.size w W) gf lb L) (hgf : EX gf) (eg : ∀ args w, (callFunc gf args).run Try.prog w = .ok (.enter gf args) w) (hl : L.length ≤ 33554432) :
    CallsIn (FN EX) 0 Try.prog 65 #[.func (.func gf) #[] lb] w fun e w' => ∃ v, e = .returned v ∧ w'.ownsRow w.heap.size 89 3 v L.length (cells94 L) ∧ Below w.heap.size w w' := by
  have hc := appseq_in (L0 := []) (w0 := w) (w := w) (Z := []) (v0 := .slice none 0 0) hseq hgf eg (by simpa using hl) (own_nil _ _ _ _) (Below.refl _ _) (fun q hq => by cases hq) (fun W hb _ => hb)
  have HC := Hd.mk hc
  have h67 : EX 67 := ⟨_, Try.func67⟩
  clear hseq hgf eg hl hc
  refine callsIn_of_wp Try.func65 rfl ⟨_, Try.func65⟩ ?_ rfl
  simp only [Try.ntmps65, List.size_toArray, List.length_cons, List.length_nil, Nat.reduceAdd, Nat.reduceSub, Array.replicate_succ, Array.replicate_zero, List.push_toArray, List.append_toArray, List.nil_append, List.cons_append]
  gi_wp2_with fail
  refine HC.out.mono ?_
  rintro e w' ⟨v, rfl, ho, hb, _⟩
  rw [List.length_nil, Nat.zero_add, List.nil_append] at ho
  obtain ⟨Av, cv, rfl⟩ := own_slice ho
  have HO := Hd.mk ho
  have HB := Hd.mk hb
  clear ho hb HC
  gi_wp2
  go_ret
  exact ⟨_, rfl, HO.out, HB.out⟩
/-- What Compose answers. -/
def composeE (st : List S80) (d x : List Int) (sb : List S80) (db xb : List Int) : List S80 × List Int × List Int × Int :=
  if (ited st d x).2 ≠ 0 then ([], [], [], (ited st d x).2) else if (ited sb db xb).2 ≠ 0 then ([], [], [], (ited sb db xb).2) else if rds (ited st d x).1 sb 0 = false then ([], [], [], 163)
  else normOf ((og sb db xb 0).map (cmp1 (og st d x 0)))
theorem leaveC {tmps : Array Value} {W : World} {R : Ending → World → Prop} {b : Nat} {v0 v1 v2 : Value} {u : Value} (h4 : tmps.getD 4 undef = .pointer (some ⟨b, 0, none⟩)) (h5 : tmps.getD 5 undef = u)
    (g : W.heap[b]? = some (.cells #[v0, v1, v2] 28 (0, 0))) (h : R (.returned (.tuple #[.agg #[v0, v1, v2], u])) W) : bodyPost Try.prog Try.f45 R .ret { tmps := tmps, defers := [] } W := by
  refine ⟨rfl, .tuple #[.agg #[v0, v1, v2], u], ?_, h⟩
  have h4' : tmps[4]?.getD undef = .pointer (some ⟨b, 0, none⟩) := by simpa using h4
  have h5' : tmps[5]?.getD undef = u := by simpa using h5
  have g0 : W.cell? ⟨b, 0, none⟩ = some v0 := (blk_cell g 0).trans rfl
  have g1 : W.cell? ⟨b, 1, none⟩ = some v1 := (blk_cell g 1).trans rfl
  have g2 : W.cell? ⟨b, 2, none⟩ = some v2 := (blk_cell g 2).trans rfl
  simp [results, Try.results45, go_sem, h4', h5', g0, g1, g2]
set_option maxRecDepth 100000 in
set_option maxHeartbeats 8000000 in
theorem compose_cm {A0 : Option Addr} {c0 : Nat} {st : List S80} {A1 : Option Addr} {c1 : Nat} {d : List Int} {A2 : Option Addr} {c2 : Nat} {x : List Int} {D0 : Option Addr} {g0 : Nat} {sb : List S80} {D1 : Option Addr} {g1 : Nat} {db : List Int} {D2 : Option Addr} {g2 : Nat} {xb : List Int} {w : World}
    (hE : EdC w A0 c0 st A1 c1 d A2 c2 x) (hG : EdC w D0 g0 sb D1 g1 db D2 g2 xb) (hf : ∀ n : Int, sb.all may = true → rds n sb 0 = true → Inn n (og sb db xb 0)) :
    Calls Try.prog 45 #[EdV A0 st.length c0 A1 d.length c1 A2 x.length c2, EdV D0 sb.length g0 D1 db.length g1 D2 xb.length g2] w (NormR w (composeE st d x sb db xb)) := by
  unfold EdV
  obtain ⟨w0, hw0⟩ : ∃ w_, ((w.alloc (.cells #[.slice A0 st.length c0, .slice A1 d.length c1, .slice A2 x.length c2] 28)).alloc (.cells #[.slice D0 sb.length g0, .slice D1 db.length g1, .slice D2 xb.length g2] 28)).alloc (.cells #[.slice none 0 0, .slice none 0 0, .slice none 0 0] 28) = w_ := ⟨_, rfl⟩
  have hb0 : Below w.heap.size w w0 := by
    rw [← hw0]
    exact (((Below.refl _ _).alloc (Nat.le_refl _) _).alloc (by simp) _).alloc (by simp; omega) _
  have HE := Hd.mk (hE.below hb0)
  have HG := Hd.mk (hG.below hb0)
  have HB := Hd.mk hb0
  have hY : w0.heap[w.heap.size]? = some (.cells #[.slice A0 st.length c0, .slice A1 d.length c1, .slice A2 x.length c2] 28 (0, 0)) := by
    rw [← hw0]
    exact blk_alloc (blk_alloc (blk_new w _) _) _
  have hV : w0.heap[w.heap.size + 1]? = some (.cells #[.slice D0 sb.length g0, .slice D1 db.length g1, .slice D2 xb.length g2] 28 (0, 0)) := by
    rw [← hw0]
    have := blk_new (w.alloc (.cells #[.slice A0 st.length c0, .slice A1 d.length c1, .slice A2 x.length c2] 28)) (.cells #[.slice D0 sb.length g0, .slice D1 db.length g1, .slice D2 xb.length g2] 28)
    rw [World.size_alloc] at this
    exact blk_alloc this _
  have hT : w0.heap[w.heap.size + 1 + 1]? = some (.cells #[.slice none 0 0, .slice none 0 0, .slice none 0 0] 28 (0, 0)) := by
    rw [← hw0]
    have := blk_new ((w.alloc (.cells #[.slice A0 st.length c0, .slice A1 d.length c1, .slice A2 x.length c2] 28)).alloc (.cells #[.slice D0 sb.length g0, .slice D1 db.length g1, .slice D2 xb.length g2] 28)) (.cells #[.slice none 0 0, .slice none 0 0, .slice none 0 0] 28)
    rw [World.size_alloc, World.size_alloc] at this
    exact this
  have HY := Hd.mk hY
  have HV := Hd.mk hV
  have HT := Hd.mk hT
  have hit := itself_c HE.out
  obtain ⟨⟨n, er⟩, hie⟩ : ∃ r, ited st d x = r := ⟨_, rfl⟩
  obtain ⟨⟨nb, eb⟩, hib⟩ : ∃ r, ited sb db xb = r := ⟨_, rfl⟩
  have hne : composeE st d x sb db xb = if er ≠ 0 then ([], [], [], er) else if eb ≠ 0 then ([], [], [], eb) else if rds n sb 0 = false then ([], [], [], 163) else normOf ((og sb db xb 0).map (cmp1 (og st d x 0))) := by unfold composeE; rw [hie, hib]
  rw [hie] at hit
  have HIT := Hd.mk hit
  have HIE := Hd.mk hie
  have HIB := Hd.mk hib
  have HNE := Hd.mk hne
  have HFB := Hd.mk hf
  have hmf : ∀ (fn : Fn) (first cap : Array Value) (w : World), (Instr.makeFunc fn first cap).run Try.prog w = .ok (.func fn first cap) w := fun _ _ _ _ => rfl
  clear hb0 hE hG hY hV hT hit hie hib hne hf
  unfold EdV at HIT
  have cHY0 := blk_cell HY.out 0
  have cHY1 := blk_cell HY.out 1
  have cHY2 := blk_cell HY.out 2
  have cHV0 := blk_cell HV.out 0
  have cHV1 := blk_cell HV.out 1
  have cHV2 := blk_cell HV.out 2
  have cHT0 := blk_cell HT.out 0
  have cHT1 := blk_cell HT.out 1
  have cHT2 := blk_cell HT.out 2
  simp at cHY0 cHY1 cHY2 cHV0 cHV1 cHV2 cHT0 cHT1 cHT2
  go_enter Try.func45, Try.ntmps45
  go_wp2_with fail
  refine HIT.out.mono ?_
  rintro e w1 ⟨rfl, hb1⟩
  clear HIT hw0
  clear cHY0 cHY1 cHY2 cHV0 cHV1 cHV2 cHT0 cHT1 cHT2
  replace HB := Hd.mk (below_step HB.out hb1)
  replace HE := Hd.mk (HE.out.below hb1)
  replace HG := Hd.mk (HG.out.below hb1)
  replace HY := Hd.mk (blk_below HY.out hb1)
  replace HV := Hd.mk (blk_below HV.out hb1)
  replace HT := Hd.mk (blk_below HT.out hb1)
  have cHY0 := blk_cell HY.out 0
  have cHY1 := blk_cell HY.out 1
  have cHY2 := blk_cell HY.out 2
  have cHV0 := blk_cell HV.out 0
  have cHV1 := blk_cell HV.out 1
  have cHV2 := blk_cell HV.out 2
  have cHT0 := blk_cell HT.out 0
  have cHT1 := blk_cell HT.out 1
  have cHT2 := blk_cell HT.out 2
  simp at cHY0 cHY1 cHY2 cHV0 cHV1 cHV2 cHT0 cHT1 cHT2
  clear hb1
  have f0 := blk_frozen HT.out 0
  have f1 := blk_frozen HT.out 1
  have f2 := blk_frozen HT.out 2
  by_cases her : er = 0
  rotate_left
  · have hne : (er != 0) = true := by simpa using her
    have hn := HNE.out
    rw [if_pos her] at hn
    have HN := Hd.mk hn
    have HER := Hd.mk her
    clear her hn HNE
    go_wp2
    refine leaveC (b := w.heap.size + 1 + 1) rfl rfl (blk3 HT.out _ _ _) ?_
    rw [HN.out]
    exact normR_bad (by omega) HB.out _ _ _
  subst her
  clear f0 f1 f2
  have hit := itself_c HG.out
  rw [HIB.out] at hit
  unfold EdV at hit
  have HIT := Hd.mk hit
  clear hit
  go_wp2_with fail
  refine HIT.out.mono ?_
  rintro e w2 ⟨rfl, hb2⟩
  clear HIT
  clear cHY0 cHY1 cHY2 cHV0 cHV1 cHV2 cHT0 cHT1 cHT2
  replace HB := Hd.mk (below_step HB.out hb2)
  replace HE := Hd.mk (HE.out.below hb2)
  replace HG := Hd.mk (HG.out.below hb2)
  replace HY := Hd.mk (blk_below HY.out hb2)
  replace HV := Hd.mk (blk_below HV.out hb2)
  replace HT := Hd.mk (blk_below HT.out hb2)
  have cHY0 := blk_cell HY.out 0
  have cHY1 := blk_cell HY.out 1
  have cHY2 := blk_cell HY.out 2
  have cHV0 := blk_cell HV.out 0
  have cHV1 := blk_cell HV.out 1
  have cHV2 := blk_cell HV.out 2
  have cHT0 := blk_cell HT.out 0
  have cHT1 := blk_cell HT.out 1
  have cHT2 := blk_cell HT.out 2
  simp at cHY0 cHY1 cHY2 cHV0 cHV1 cHV2 cHT0 cHT1 cHT2
  clear hb2
  have f0 := blk_frozen HT.out 0
  have f1 := blk_frozen HT.out 1
  have f2 := blk_frozen HT.out 2
  by_cases her : eb = 0
  rotate_left
  · have hne : (eb != 0) = true := by simpa using her
    have hn := HNE.out
    rw [if_neg (by simp), if_pos her] at hn
    have HN := Hd.mk hn
    have HER := Hd.mk her
    clear her hn HNE
    go_wp2
    refine leaveC (b := w.heap.size + 1 + 1) rfl rfl (blk3 HT.out _ _ _) ?_
    rw [HN.out]
    exact normR_bad (by omega) HB.out _ _ _
  subst her
  clear f0 f1 f2
  have hrd := reads_c n HG.out.s HG.out.hs
  obtain ⟨rb, hrb⟩ : ∃ r, rds n sb 0 = r := ⟨_, rfl⟩
  rw [hrb] at hrd
  have HRD := Hd.mk hrd
  have HRB := Hd.mk hrb
  clear hrd hrb
  go_wp2_with fail
  refine HRD.out.mono ?_
  rintro e w3 ⟨rfl, hb3⟩
  clear HRD
  clear cHY0 cHY1 cHY2 cHV0 cHV1 cHV2 cHT0 cHT1 cHT2
  replace HB := Hd.mk (below_step HB.out hb3)
  replace HE := Hd.mk (HE.out.below hb3)
  replace HG := Hd.mk (HG.out.below hb3)
  replace HY := Hd.mk (blk_below HY.out hb3)
  replace HV := Hd.mk (blk_below HV.out hb3)
  replace HT := Hd.mk (blk_below HT.out hb3)
  have cHY0 := blk_cell HY.out 0
  have cHY1 := blk_cell HY.out 1
  have cHY2 := blk_cell HY.out 2
  have cHV0 := blk_cell HV.out 0
  have cHV1 := blk_cell HV.out 1
  have cHV2 := blk_cell HV.out 2
  have cHT0 := blk_cell HT.out 0
  have cHT1 := blk_cell HT.out 1
  have cHT2 := blk_cell HT.out 2
  simp at cHY0 cHY1 cHY2 cHV0 cHV1 cHV2 cHT0 cHT1 cHT2
  clear hb3
  have hn := HNE.out
  rw [if_neg (by simp), if_neg (by simp), HRB.out] at hn
  cases rb with
  | false =>
    rw [if_pos rfl] at hn
    have HN := Hd.mk hn
    have f0 := blk_frozen HT.out 0
    have f1 := blk_frozen HT.out 1
    have f2 := blk_frozen HT.out 2
    clear hn HNE
    go_wp2
    refine leaveC (b := w.heap.size + 1 + 1) rfl rfl (blk3 HT.out _ _ _) ?_
    rw [HN.out]
    exact normR_bad (by omega) HB.out _ _ _
  | true =>
    rw [if_neg (by simp)] at hn
    have HN := Hd.mk hn
    clear hn HNE
    go_wp2_with fail
    refine (origins_calls A0 c0 st A1 c1 d A2 c2 x _ HE.out).mono ?_
    rintro e w4 ⟨Be, rfl, hEB, hb4, hBe⟩
    clear cHY0 cHY1 cHY2 cHV0 cHV1 cHV2 cHT0 cHT1 cHT2
    replace HB := Hd.mk (below_step HB.out hb4)
    replace HE := Hd.mk (HE.out.below hb4)
    replace HG := Hd.mk (HG.out.below hb4)
    replace HY := Hd.mk (blk_below HY.out hb4)
    replace HV := Hd.mk (blk_below HV.out hb4)
    replace HT := Hd.mk (blk_below HT.out hb4)
    have cHY0 := blk_cell HY.out 0
    have cHY1 := blk_cell HY.out 1
    have cHY2 := blk_cell HY.out 2
    have cHV0 := blk_cell HV.out 0
    have cHV1 := blk_cell HV.out 1
    have cHV2 := blk_cell HV.out 2
    have cHT0 := blk_cell HT.out 0
    have cHT1 := blk_cell HT.out 1
    have cHT2 := blk_cell HT.out 2
    simp at cHY0 cHY1 cHY2 cHV0 cHV1 cHV2 cHT0 cHT1 cHT2
    clear hb4
    have ha2 : (ited st d x).2 = 0 := by rw [HIE.out]
    have ha1 := ited_all ha2
    have hlen : ((og st d x 0).length : Int) = n := by
      rw [og_len st d x 0 ha1.1 ha1.2.2.1 ha1.2.2.2.1, ← ha1.2.2.2.2, HIE.out]
    have HLEN := Hd.mk hlen
    have hfit := og_fit ha2
    have hco := calls_of_in (collect_in (L := og st d x 0) (w := w4) ((iterK_og (Be := Be) ha1.1 ha1.2.2.1 ha1.2.2.2.1).mono (fun W hb => ⟨blk_below hEB.b hb, hEB.r.below hb⟩)) ⟨_, Try.func68⟩ (enters_of Try.func68 (by kernel_rfl) rfl) (by omega))
    have HCO := Hd.mk hco
    have HFIT := Hd.mk hfit
    clear hco ha1 ha2 hEB hlen hfit
    go_wp2_with fail
    refine HCO.out.mono ?_
    rintro e w5 ⟨v, rfl, hrow, hb5⟩
    obtain ⟨Av, cv, rfl⟩ := own_slice hrow
    clear cHY0 cHY1 cHY2 cHV0 cHV1 cHV2 cHT0 cHT1 cHT2
    replace HB := Hd.mk (below_step HB.out hb5)
    replace HE := Hd.mk (HE.out.below hb5)
    replace HG := Hd.mk (HG.out.below hb5)
    replace HY := Hd.mk (blk_below HY.out hb5)
    replace HV := Hd.mk (blk_below HV.out hb5)
    replace HT := Hd.mk (blk_below HT.out hb5)
    have cHY0 := blk_cell HY.out 0
    have cHY1 := blk_cell HY.out 1
    have cHY2 := blk_cell HY.out 2
    have cHV0 := blk_cell HV.out 0
    have cHV1 := blk_cell HV.out 1
    have cHV2 := blk_cell HV.out 2
    have cHT0 := blk_cell HT.out 0
    have cHT1 := blk_cell HT.out 1
    have cHT2 := blk_cell HT.out 2
    simp at cHY0 cHY1 cHY2 cHV0 cHV1 cHV2 cHT0 cHT1 cHT2
    have hbA : Below w5.heap.size w5 (w5.alloc (.cells #[.slice Av (og st d x 0).length cv] 100)) := (Below.refl _ _).alloc (Nat.le_refl _) _
    have HROW := Hd.mk (pw_own_below hrow hbA)
    have hlt5 := blk_lt HT.out
    clear cHY0 cHY1 cHY2 cHV0 cHV1 cHV2 cHT0 cHT1 cHT2
    replace HB := Hd.mk (below_step HB.out hbA)
    replace HE := Hd.mk (HE.out.below hbA)
    replace HG := Hd.mk (HG.out.below hbA)
    replace HY := Hd.mk (blk_below HY.out hbA)
    replace HV := Hd.mk (blk_below HV.out hbA)
    replace HT := Hd.mk (blk_below HT.out hbA)
    have cHY0 := blk_cell HY.out 0
    have cHY1 := blk_cell HY.out 1
    have cHY2 := blk_cell HY.out 2
    have cHV0 := blk_cell HV.out 0
    have cHV1 := blk_cell HV.out 1
    have cHV2 := blk_cell HV.out 2
    have cHT0 := blk_cell HT.out 0
    have cHT1 := blk_cell HT.out 1
    have cHT2 := blk_cell HT.out 2
    simp at cHY0 cHY1 cHY2 cHV0 cHV1 cHV2 cHT0 cHT1 cHT2
    have HBF := Hd.mk (blk_new w5 (.cells #[.slice Av (og st d x 0).length cv] 100))
    clear hrow hb5 hbA HCO
    have hb2 : (ited sb db xb).2 = 0 := by rw [HIB.out]
    have hb1 := ited_all hb2
    have hin : Inn (og st d x 0).length (og sb db xb 0) := by
      rw [HLEN.out]
      exact HFB.out _ hb1.1 HRB.out
    have hno := calls_of_in (normal_in 66 #[.pointer (some ⟨w.heap.size + 1, 0, none⟩), .pointer (some ⟨w5.heap.size, 0, none⟩)] ((og sb db xb 0).map (cmp1 (og st d x 0))) (w5.alloc (.cells #[.slice Av (og st d x 0).length cv] 100)) (by rw [List.length_map]; exact og_fit hb2) ⟨_, Try.func66⟩ (enters_of Try.func66 (by kernel_rfl) rfl)
      (comp_iter ⟨HV.out, HG.out⟩ hb1.1 hb1.2.2.1 hb1.2.2.2.1 HBF.out HROW.out hin HFIT.out))
    have HNO := Hd.mk hno
    clear hno hb1 hb2 hin
    go_wp2_with fail
    refine HNO.out.mono ?_
    rintro e w6 ⟨v0, v1, v2, rfl, r0, r1, r2, hb6⟩
    have hsz := HB.out.size
    have HSZ2 := Hd.mk (blk_lt HT.out)
    clear cHY0 cHY1 cHY2 cHV0 cHV1 cHV2 cHT0 cHT1 cHT2
    replace HB := Hd.mk (below_step HB.out hb6)
    replace HE := Hd.mk (HE.out.below hb6)
    replace HG := Hd.mk (HG.out.below hb6)
    replace HY := Hd.mk (blk_below HY.out hb6)
    replace HV := Hd.mk (blk_below HV.out hb6)
    replace HT := Hd.mk (blk_below HT.out hb6)
    have cHY0 := blk_cell HY.out 0
    have cHY1 := blk_cell HY.out 1
    have cHY2 := blk_cell HY.out 2
    have cHV0 := blk_cell HV.out 0
    have cHV1 := blk_cell HV.out 1
    have cHV2 := blk_cell HV.out 2
    have cHT0 := blk_cell HT.out 0
    have cHT1 := blk_cell HT.out 1
    have cHT2 := blk_cell HT.out 2
    simp at cHY0 cHY1 cHY2 cHV0 cHV1 cHV2 cHT0 cHT1 cHT2
    obtain ⟨q, hq⟩ : ∃ q, normOf ((og sb db xb 0).map (cmp1 (og st d x 0))) = q := ⟨_, rfl⟩
    rw [hq] at r0 r1 r2 HN ⊢
    obtain ⟨B0, e0, rfl⟩ := Kd.R_slice r0
    obtain ⟨B1, e1, rfl⟩ := Kd.R_slice r1
    obtain ⟨B2, e2, rfl⟩ := Kd.R_slice r2
    have f0 := blk_frozen HT.out 0
    have f1 := blk_frozen HT.out 1
    have f2 := blk_frozen HT.out 2
    have R0 := Hd.mk r0
    have R1 := Hd.mk r1
    have R2 := Hd.mk r2
    clear r0 r1 r2 hb6 hq HNO
    have hlt := blk_lt HT.out
    have HSZ := Hd.mk hsz
    clear hsz
    go_wp2_with fail
    refine leaveC (b := w.heap.size + 1 + 1) rfl rfl (blk3 HT.out _ _ _) ?_
    rw [HN.out]
    exact normR_fin (by omega) (by have := HSZ2.out; omega) HB.out R0.out R1.out R2.out _ _ _
theorem compose_c {A0 : Option Addr} {c0 : Nat} {st : List S80} {A1 : Option Addr} {c1 : Nat} {d : List Int} {A2 : Option Addr} {c2 : Nat} {x : List Int} {D0 : Option Addr} {g0 : Nat} {sb : List S80} {D1 : Option Addr} {g1 : Nat} {db : List Int} {D2 : Option Addr} {g2 : Nat} {xb : List Int} {w : World}
    (hE : EdC w A0 c0 st A1 c1 d A2 c2 x) (hG : EdC w D0 g0 sb D1 g1 db D2 g2 xb) (hf : sb.length ≤ 34359738368) :
    Calls Try.prog 45 #[EdV A0 st.length c0 A1 d.length c1 A2 x.length c2, EdV D0 sb.length g0 D1 db.length g1 D2 xb.length g2] w (NormR w (composeE st d x sb db xb)) :=
  compose_cm hE hG (fun n h1 h2 => inn_of2 h1 hf h2)
end Go.Proofs.Ytemlbjpefomboaa
