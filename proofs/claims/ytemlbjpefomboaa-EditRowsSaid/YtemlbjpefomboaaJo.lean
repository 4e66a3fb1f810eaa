/- edit: Join, by contract. -/
import Derived.Test.YtemlbjpefomboaaJp
import Derived.Test.YtemlbjpefomboaaCq
import Derived.Test.YtemlbjpefomboaaRv
namespace Go.Proofs.Ytemlbjpefomboaa
open Go.RowKit Go.Shelf Go.Proofs.YtemlbjpefomboaaW.PrintWords Go.Proofs.YtemlbjpefomboaaW.PrintLast Go.Proofs.YtemlbjpefomboaaW.PrintMore Go.Proofs.Ytemlbjpefomboaa.Pr
set_option linter.unusedVariables false
set_option linter.unusedSimpArgs false
attribute [local go_sem] Oper.semAt_some
/-- The sizes so far. -/
def jz (L : List S28) (i : Nat) : List Int := (L.take i).map (fun e => (e.f1.length : Int) + e.f2.length) ++ List.replicate (L.length - i) 0
def iv (l : List Int) : List Value := l.map (fun x => .int .i64 x)
theorem jz_len (L : List S28) {i : Nat} (h : i ≤ L.length) : (jz L i).length = L.length := by
  unfold jz
  simp
  omega
theorem jz_set {L : List S28} {i : Nat} (h : i < L.length) : (jz L i).set i (((rd_T28 L i).f1.length : Int) + (rd_T28 L i).f2.length) = jz L (i + 1) := by
  unfold jz
  have hl : ((L.take i).map (fun e => (e.f1.length : Int) + e.f2.length)).length = i := by rw [List.length_map, List.length_take]; omega
  rw [take_snoc28 h, List.map_append, show L.length - i = (L.length - (i + 1)) + 1 by omega, List.replicate_succ, List.set_append, if_neg (by omega), hl, Nat.sub_self]
  simp
theorem jz_all (L : List S28) {i : Nat} (h : i < L.length) : (jz L L.length)[i]? = some (((rd_T28 L i).f1.length : Int) + (rd_T28 L i).f2.length) := by
  unfold jz
  rw [List.take_length, Nat.sub_self, List.replicate_zero, List.append_nil, List.getElem?_map, List.getElem?_eq_getElem h]
  simp [rd_T28, List.getD_eq_getElem?_getD, List.getElem?_eq_getElem h]
theorem jz_at {L : List S28} {i : Nat} (h : i < L.length) : (jz L i)[i]? = some 0 := by
  unfold jz
  have hl : ((L.take i).map (fun e => (e.f1.length : Int) + e.f2.length)).length = i := by rw [List.length_map, List.length_take]; omega
  rw [List.getElem?_append_right (by omega), hl, Nat.sub_self, List.getElem?_replicate, if_pos (by omega)]
theorem iv_set (l : List Int) (k : Nat) (x : Int) : (iv l).set k (.int .i64 x) = iv (l.set k x) := by simp [iv, List.map_set]
theorem iv_made (n : Nat) : (madeCells (Value.int .i64 0).cells (n * 1)).toList = iv (List.replicate n 0) := by
  rw [Nat.mul_one]
  exact (toList_madeCells_one _ n).trans (by simp [iv])
theorem badJ_at {L : List S28} {i : Nat} (h : i < L.length) (hk : ∀ e ∈ L.take i, (ited e.f0 e.f1 e.f2).2 = 0) (hb : (ited (rd_T28 L i).f0 (rd_T28 L i).f1 (rd_T28 L i).f2).2 ≠ 0) : badJ L = (ited (rd_T28 L i).f0 (rd_T28 L i).f1 (rd_T28 L i).f2).2 := by
  induction L generalizing i with
  | nil => simp at h
  | cons a l ih =>
    cases i with
    | zero =>
      rw [show rd_T28 (a :: l) ((0 : Nat) : Int) = a by simp [rd_T28]] at hb ⊢
      rw [badJ, if_pos hb]
    | succ i =>
      have e : rd_T28 (a :: l) ((i + 1 : Nat) : Int) = rd_T28 l (i : Int) := by simp [rd_T28, List.getD_eq_getElem?_getD]
      rw [e] at hb ⊢
      rw [badJ, if_neg (fun h' => h' (hk a (by simp)))]
      exact ih (by simpa using h) (fun x hx => hk x (by simp [hx])) hb
theorem below_go {g : Nat} {w0 w1 w2 : World} (hg : w0.heap.size = g) (h : Below g w0 w1) (h2 : Below w1.heap.size w1 w2) : Below g w0 w2 := by
  subst hg
  exact below_step h h2
theorem eltI : Elt Try.prog 104 3 (.int .i64 0) 1 8 := ⟨Try.underlying104, by kernel_rfl, rfl, by decide, by decide⟩
theorem leaveJ {tmps : Array Value} {W : World} {R : Ending → World → Prop} {b : Nat} {v0 v1 v2 : Value} {u : Value} (h4 : tmps.getD 2 undef = .pointer (some ⟨b, 0, none⟩)) (h5 : tmps.getD 3 undef = u)
    (g : W.heap[b]? = some (.cells #[v0, v1, v2] 28 (0, 0))) (h : R (.returned (.tuple #[.agg #[v0, v1, v2], u])) W) : bodyPost Try.prog Try.f47 R .ret { tmps := tmps, defers := [] } W := by
  refine ⟨rfl, .tuple #[.agg #[v0, v1, v2], u], ?_, h⟩
  have h4' : tmps[2]?.getD undef = .pointer (some ⟨b, 0, none⟩) := by simpa using h4
  have h5' : tmps[3]?.getD undef = u := by simpa using h5
  have g0 : W.cell? ⟨b, 0, none⟩ = some v0 := (blk_cell g 0).trans rfl
  have g1 : W.cell? ⟨b, 1, none⟩ = some v1 := (blk_cell g 1).trans rfl
  have g2 : W.cell? ⟨b, 2, none⟩ = some v2 := (blk_cell g 2).trans rfl
  simp [results, Try.results47, go_sem, h4', h5', g0, g1, g2]
set_option maxRecDepth 100000 in
set_option maxHeartbeats 8000000 in
theorem join_c {A : Option Addr} {c : Nat} {L : List S28} {w : World} (hL : Kd.C k28 w A L.length L) (hc : L.length ≤ c) (hl : L.length ≤ 1048576) :
    Calls Try.prog 47 #[.slice A L.length c] w (NormR w (joinE L)) := by
  obtain ⟨w0, hw0⟩ : ∃ w_, w.alloc (.cells #[.slice none 0 0, .slice none 0 0, .slice none 0 0] 28) = w_ := ⟨_, rfl⟩
  have hb0 : Below w.heap.size w w0 := by
    rw [← hw0]
    exact (Below.refl _ _).alloc (Nat.le_refl _) _
  have hT : w0.heap[w.heap.size]? = some (.cells #[.slice none 0 0, .slice none 0 0, .slice none 0 0] 28 (0, 0)) := by
    rw [← hw0]
    exact blk_new w _
  obtain ⟨q, hq⟩ : ∃ q, joinE L = q := ⟨_, rfl⟩
  rw [hq]
  obtain ⟨n, hn⟩ : ∃ n, L.length = n := ⟨_, rfl⟩
  obtain ⟨i0, hi, hz0, hz1, hz2⟩ := info_parts eltI.hi
  obtain ⟨w1, hmk, hr1, hg1⟩ := run_make_full (P := Try.prog) w0 w0.heap.size 104 3 i0 (.int .i64 0) 1 eltI.ht hi hz0 hz1 .i64 .i64 n (by rw [hz2]; omega) (by simp only [maxLen]; omega) (Nat.le_refl _)
  rw [iv_made] at hr1
  have hjz : List.replicate n (0 : Int) = jz L 0 := by unfold jz; rw [hn]; simp
  rw [hjz] at hr1
  have hb1 : Below w0.heap.size w0 w1 := (Below.refl _ _).grown hg1 (Nat.le_refl _) (fun k e => by cases e)
  have hlT := blk_lt hT
  have HLw := Hd.mk hL
  have HB0 := Hd.mk hb0
  have HT0 := Hd.mk hT
  have HQ := Hd.mk hq
  have HR1 := Hd.mk hr1
  have HB1 := Hd.mk hb1
  have HCC := Hd.mk hc
  subst hn
  obtain ⟨g, hg⟩ : ∃ g, w0.heap.size = g := ⟨_, rfl⟩
  rw [hg] at hmk HR1 HB1 hlT
  have HG := Hd.mk hg
  have hgl := own_lt HR1.out g (by simp [Value.ownBlock])
  clear hL hc hb0 hT hq hr1 hg1 hb1 hi hz0 hz1 hz2 hjz hg
  go_enter Try.func47, Try.ntmps47
  go_wp2
  clear hmk hw0
  go_loopg [20] L.length (fun k v20 W => ∃ i : Nat, v20 = .int .i64 i ∧ i + k = L.length ∧ Hd (∀ e ∈ L.take i, (ited e.f0 e.f1 e.f2).2 = 0) ∧ Hd (W.ownsRow g 3 1 (.slice (some ⟨g, 0, none⟩) L.length L.length) L.length (iv (jz L i))) ∧ Hd (Below g w0 W))
  case atStart => exact ⟨0, rfl, by omega, ⟨by simp⟩, HR1, HB1⟩
  case round =>
    clear HR1 HB1 hgl
    obtain ⟨i, rfl, hk, HK, HR, HB⟩ := hrel
    have hgw := HB.out.size
    rcases gk with _ | gk
    · have hlt : decide ((i : Int) < (L.length : Int)) = false := decide_eq_false (by omega)
      obtain rfl : i = L.length := by omega
      have hok := HK.out
      rw [List.take_length] at hok
      have HOK := Hd.mk hok
      clear hok HK
      go_wp2
      go_loopg [9, 41] L.length (fun k v9 v41 W => ∃ j : Nat, v9 = .int .i64 ((szJ (L.take j) : Nat) : Int) ∧ v41 = .int .i64 j ∧ j + k = L.length ∧ szJ (L.take j) ≤ 16777216 ∧ Hd (W.ownsRow g 3 1 (.slice (some ⟨g, 0, none⟩) L.length L.length) L.length (iv (jz L L.length))) ∧ Hd (Below g w0 W))
      case atStart => exact ⟨0, by simp [szJ], rfl, by omega, by simp [szJ], HR, HB⟩
      case round =>
        clear HR HB hgw
        obtain ⟨j, rfl, rfl, hk, hs, HR, HB⟩ := hrel
        have hgw := HB.out.size
        rcases gk with _ | gk
        · have hlt : decide ((j : Int) < (L.length : Int)) = false := decide_eq_false (by omega)
          obtain rfl : j = L.length := by omega
          rw [List.take_length] at hs ⊢
          have hqq := HQ.out
          unfold joinE at hqq
          rw [if_neg (by rw [badJ_all L HOK.out]; simp), if_neg (by omega)] at hqq
          have hno := ogJ_len L HOK.out
          have HSZ : Hd (∀ i, szJ (L.take i) ≤ 16777216) := ⟨fun i => Nat.le_trans (szJ_take L i) hs⟩
          obtain ⟨N, hN⟩ : ∃ N, szJ L = N := ⟨_, rfl⟩
          rw [hN] at hs hno ⊢
          have hbw : Below w.heap.size w wr := below_step HB0.out (by rw [HG.out]; exact HB.out)
          obtain ⟨i0, hi, hz0, hz1, hz2⟩ := info_parts eltO.hi
          obtain ⟨w3, hmk, hr3, hg3⟩ := run_make_own (P := Try.prog) wr w.heap.size 100 89 i0 (.agg #[.bool false, .int .i64 0, .int .u8 0]) 3 eltO.ht hi hz0 hz1 .i64 .i64 N (by rw [hz2]; omega) (by simp only [maxLen]; omega) hbw.size
          have hb3 : Below wr.heap.size wr w3 := (Below.refl _ _).grown hg3 (Nat.le_refl _) (fun k e => by cases e)
          have HT3 := Hd.mk (blk_below (blk_below HT0.out (show Below w0.heap.size w0 wr by rw [HG.out]; exact HB.out)) hb3)
          have HB3 := Hd.mk (below_step hbw hb3)
          have HR3 := Hd.mk hr3
          have HQQ := Hd.mk hqq
          have HNO := Hd.mk hno
          clear hqq hno hN hi hz0 hz1 hz2 hr3 hg3 hb3 hbw HR HB HB0 HT0 HQ hgw
          go_wp2
          clear hmk
          go_loopg [12, 56] L.length (fun k v12 v56 W => ∃ (i : Nat) (A' : Option Addr) (c' : Nat), v12 = .slice A' (ogJ (L.take i)).length c' ∧ v56 = .int .i64 i ∧ i + k = L.length ∧
            Hd (W.ownsRow w.heap.size 89 3 (.slice A' (ogJ (L.take i)).length c') (ogJ (L.take i)).length (cells94 (ogJ (L.take i)))) ∧ Hd (W.heap[w.heap.size]? = some (.cells #[.slice none 0 0, .slice none 0 0, .slice none 0 0] 28 (0, 0))) ∧ Hd (Below w.heap.size w W))
          case atStart => exact ⟨0, _, _, rfl, rfl, by omega, HR3, HT3, HB3⟩
          case round =>
            clear HR3 HB3 HT3
            obtain ⟨i, A', c', rfl, rfl, hk, HR, HT, HB⟩ := hrel
            have hgw := HB.out.size
            rcases gk with _ | gk
            · have hlt : decide ((i : Int) < (L.length : Int)) = false := decide_eq_false (by omega)
              obtain rfl : i = L.length := by omega
              have hr := HR.out
              rw [List.take_length] at hr ⊢
              have hnl := HNO.out
              obtain ⟨O, hO⟩ : ∃ O, ogJ L = O := ⟨_, rfl⟩
              have hqq := HQQ.out
              rw [hO] at hr hqq hnl ⊢
              subst hnl
              have HVA := Hd.mk (calls_of_in (values_call (A := A') (c := c') (L := O) (w := wr)))
              have HR' := Hd.mk hr
              have HQ' := Hd.mk hqq
              have hm24 : O.length ≤ 16777216 := by omega
              clear hr hqq hO HR HNO HQQ HSZ HOK
              go_wp2_with fail
              refine HVA.out.mono ?_
              rintro e w5 ⟨rfl, rfl⟩
              clear HVA
              have hb5 : Below wr.heap.size wr (wr.alloc (.cells #[.slice A' O.length c'] 100)) := (Below.refl _ _).alloc (Nat.le_refl _) _
              have hvb : ValB wr.heap.size A' c' O (wr.alloc (.cells #[.slice A' O.length c'] 100)) := ⟨blk_new wr _, _, pw_own_below HR'.out hb5⟩
              have hno := calls_of_in (normal_in 71 #[.pointer (some ⟨wr.heap.size, 0, none⟩)] O (wr.alloc (.cells #[.slice A' O.length c'] 100)) hm24 ⟨_, Try.func71⟩ (enters_of Try.func71 (by kernel_rfl) rfl) (IterK.of ((values_iter (by omega)).mono (fun W' hb => hvb.below hb))))
              rw [HQ'.out] at hno
              have HNO := Hd.mk hno
              have HB5 := Hd.mk hb5
              clear hno hvb hb5 HR' HQ'
              go_wp2_with fail
              refine HNO.out.mono ?_
              obtain ⟨n0, n1, n2, n3⟩ := q
              rintro e w6 ⟨v0, v1, v2, rfl, r0, r1, r2, hb6⟩
              simp only at r0 r1 r2 ⊢
              obtain ⟨B0, e0, rfl⟩ := Kd.R_slice r0
              obtain ⟨B1, e1, rfl⟩ := Kd.R_slice r1
              obtain ⟨B2, e2, rfl⟩ := Kd.R_slice r2
              have hT6 := blk_below (blk_below HT.out HB5.out) hb6
              have HT6 := Hd.mk hT6
              have HBE := Hd.mk (below_step (below_step HB.out HB5.out) hb6)
              have R0 := Hd.mk r0
              have R1 := Hd.mk r1
              have R2 := Hd.mk r2
              have f0 := blk_frozen hT6 0
              have f1 := blk_frozen hT6 1
              have f2 := blk_frozen hT6 2
              have cT0 := blk_cell hT6 0
              have cT1 := blk_cell hT6 1
              have cT2 := blk_cell hT6 2
              simp at cT0 cT1 cT2
              clear r0 r1 r2 hT6 hb6 HNO HB HT HB5
              go_wp2
              refine leaveJ (b := w.heap.size) rfl rfl (blk3 HT6.out _ _ _) ?_
              exact normR_fin (Nat.le_refl _) (by rw [World.size_alloc]; omega) HBE.out R0.out R1.out R2.out _ _ _
            · have hlt : decide ((i : Int) < (L.length : Int)) = true := decide_eq_true (by omega)
              have hng : decide ((0 : Int) ≤ (i : Int)) = true := decide_eq_true (by omega)
              have hil : i < L.length := by omega
              obtain ⟨ad, A0, c0, A1, c1, A2, c2, e, x0, x1, x2, l0, g0, l1, g1, l2, g2⟩ := at_T28 HLw.out i (by omega) (by omega)
              replace x0 := pw_cell_below HB.out x0
              replace x1 := pw_cell_below HB.out x1
              replace x2 := pw_cell_below HB.out x2
              subst e
              have hie := HOK.out _ (mem28 hil)
              have hmem := take_snoc28 hil
              have hs1 := HSZ.out (i + 1)
              rw [hmem, szJ_app] at hs1
              have hol := ogJ_len (L.take i) (fun e he => HOK.out e (List.mem_of_mem_take he))
              obtain ⟨⟨st, d, x⟩, hg⟩ : ∃ r, rd_T28 L i = r := ⟨_, rfl⟩
              rw [hg] at x0 x1 x2 l0 g0 l1 g1 l2 g2 hmem hie hs1
              rw [Int.toNat_natCast] at x0 x1 x2
              simp only at x0 x1 x2 l0 g0 l1 g1 l2 g2 hmem hie
              simp only [szJ] at hs1
              have hlen := og_size hie
              have hom : ogJ (L.take (i + 1)) = ogJ (L.take i) ++ og st d x 0 := by rw [hmem, ogJ_snoc]
              have HEw := Hd.mk (EdC.mk g0 g1 g2 l0 l1 l2)
              have HEr := Hd.mk (HEw.out.below HB.out)
              have hba : Below wr.heap.size wr (wr.alloc (.cells #[.slice A0 st.length c0, .slice A1 d.length c1, .slice A2 x.length c2] 28)) := (Below.refl _ _).alloc (Nat.le_refl _) _
              have HOC := Hd.mk (origins_calls A0 c0 st A1 c1 d A2 c2 x _ (HEr.out.below hba))
              have HBA := Hd.mk hba
              have HIE := Hd.mk hie
              have HOM := Hd.mk hom
              have HLN := Hd.mk (show (ogJ (L.take i)).length + (og st d x 0).length ≤ 33554432 by omega)
              clear hg g0 g1 g2 l0 l1 l2 hba hmem hie hs1 hol hlen hom HOK
              go_wp2_with fail
              refine HOC.out.mono ?_
              rintro e w4 ⟨Be, rfl, hEB, hb4, hBe⟩
              have hr4 := pw_own_below (pw_own_below HR.out HBA.out) hb4
              have hT4 := blk_below (blk_below HT.out HBA.out) hb4
              have hbe := below_step (below_step HB.out HBA.out) hb4
              have ha1 := ited_all HIE.out
              have happ := calls_of_in (appseq_in (Kw := fun W => EdB W Be A0 c0 st A1 c1 d A2 c2 x) (L := og st d x 0) (L0 := ogJ (L.take i)) (w0 := w) (w := w4)
                (Z := [(Be, .cells #[.slice A0 st.length c0, .slice A1 d.length c1, .slice A2 x.length c2] 28), (w.heap.size, .cells #[.slice none 0 0, .slice none 0 0, .slice none 0 0] 28)]) (v0 := .slice A' (ogJ (L.take i)).length c')
                (iterK_og (Be := Be) ha1.1 ha1.2.2.1 ha1.2.2.2.1) ⟨_, Try.func68⟩ (enters_of Try.func68 (by kernel_rfl) rfl) HLN.out hr4 hbe (fun q hq => by
                  simp only [List.mem_cons, List.not_mem_nil, or_false] at hq
                  rcases hq with rfl | rfl
                  · exact ⟨hEB.b, rfl, (own_ne hr4 hEB.b (by decide)).symm⟩
                  · exact ⟨hT4, rfl, (own_ne hr4 hT4 (by decide)).symm⟩) (fun W hb hq => ⟨hq _ List.mem_cons_self, HEw.out.below hb⟩))
              have HAP := Hd.mk happ
              clear happ hr4 hT4 hbe ha1 hEB hb4 HOC
              go_wp2_with fail
              refine HAP.out.mono ?_
              rintro e w5 ⟨v, rfl, ho, hb5, hz5⟩
              obtain ⟨A5, c5, rfl⟩ := own_slice ho
              have hT5 := (hz5 _ (List.mem_cons_of_mem _ List.mem_cons_self)).1
              simp only at hT5
              rw [← List.length_append, ← HOM.out] at ho ⊢
              have HO5 := Hd.mk ho
              have HT5 := Hd.mk hT5
              have HB5 := Hd.mk hb5
              clear ho hT5 hb5 hz5 HAP
              go_wp2
              go_roundg gk
              case measure => omega
              case rel => exact ⟨i + 1, A5, c5, rfl, rfl, by omega, HO5, HT5, HB5⟩
        · have hlt : decide ((j : Int) < (L.length : Int)) = true := decide_eq_true (by omega)
          have hng : decide ((0 : Int) ≤ (j : Int)) = true := decide_eq_true (by omega)
          have hjl : j < L.length := by omega
          have hca := World.ownsRow.cellAt HR.out j (by omega)
          rw [iv, List.getElem?_map, jz_all L hjl, Option.map_some] at hca
          have hsz : szJ (L.take (j + 1)) = szJ (L.take j) + ((rd_T28 L j).f1.length + (rd_T28 L j).f2.length) := by
            rw [take_snoc28 hjl, szJ_app]
            simp [szJ]
          have hle := szJ_take L (j + 1)
          have hsi := ited_size (HOK.out _ (mem28 hjl))
          obtain ⟨s1, hs1⟩ : ∃ s, szJ (L.take (j + 1)) = s := ⟨_, rfl⟩
          obtain ⟨s0, hs0⟩ : ∃ s, szJ (L.take j) = s := ⟨_, rfl⟩
          obtain ⟨d1, hd1⟩ : ∃ s, (rd_T28 L j).f1.length = s := ⟨_, rfl⟩
          obtain ⟨d2, hd2⟩ : ∃ s, (rd_T28 L j).f2.length = s := ⟨_, rfl⟩
          rw [hs1] at hsz hle
          rw [hs0] at hsz hs ⊢
          rw [hd1, hd2] at hsz hca hsi
          have HS1 := Hd.mk hs1
          clear hs1 hs0 hd1 hd2
          have e2 : Hd ((s0 : Int) + ((d1 : Int) + (d2 : Int)) = (s1 : Int)) := ⟨by omega⟩
          replace hsi := hsi.2
          have HSZ := Hd.mk hsz
          by_cases hb : 16777216 < s1
          · have hb1 : decide (16777216 < (s0 : Int) + ((d1 : Int) + (d2 : Int))) = true := decide_eq_true (by omega)
            have hT2 := blk_below HT0.out (show Below w0.heap.size w0 wr by rw [HG.out]; exact HB.out)
            have hqq := HQ.out
            unfold joinE at hqq
            rw [if_neg (by rw [badJ_all L HOK.out]; simp), if_pos (by omega)] at hqq
            have f0 := blk_frozen hT2 0
            have f1 := blk_frozen hT2 1
            have f2 := blk_frozen hT2 2
            have cT0 := blk_cell hT2 0
            have cT1 := blk_cell hT2 1
            have cT2 := blk_cell hT2 2
            simp at cT0 cT1 cT2
            have HT2 := Hd.mk hT2
            have HQQ := Hd.mk hqq
            clear hT2 hqq hsz hle HOK
            go_wp2
            refine leaveJ (b := w.heap.size) rfl rfl (blk3 HT2.out _ _ _) ?_
            rw [← HQQ.out]
            exact normR_bad (Nat.le_refl _) (below_step HB0.out (by rw [HG.out]; exact HB.out)) _ _ _
          · have hb1 : decide (16777216 < (s0 : Int) + ((d1 : Int) + (d2 : Int))) = false := decide_eq_false (by omega)
            have hs16 : s1 ≤ 16777216 := by omega
            clear hsz hle HOK
            go_wp2
            go_roundg gk
            case measure => omega
            case rel =>
              refine ⟨j + 1, ?_, rfl, by omega, ?_, HR, HB⟩
              · rw [HS1.out, e2.out]
              · rw [HS1.out]; exact hs16
    · have hlt : decide ((i : Int) < (L.length : Int)) = true := decide_eq_true (by omega)
      have hng : decide ((0 : Int) ≤ (i : Int)) = true := decide_eq_true (by omega)
      have hil : i < L.length := by omega
      have hBw : Below w.heap.size w wr := by
        have := HG.out
        have h1 := HB0.out.size
        exact below_step HB0.out (by rw [this]; exact HB.out)
      obtain ⟨ad, A0, c0, A1, c1, A2, c2, e, x0, x1, x2, l0, g0, l1, g1, l2, g2⟩ := at_T28 (Kd.C_below HLw.out hBw) i (by omega) (by omega)
      subst e
      have hbad := badJ_at hil HK.out
      have hjs := jz_set hil
      have hmem := take_snoc28 hil
      obtain ⟨⟨st, d, x⟩, hg⟩ : ∃ r, rd_T28 L i = r := ⟨_, rfl⟩
      rw [hg] at x0 x1 x2 l0 g0 l1 g1 l2 g2 hbad hjs hmem
      rw [Int.toNat_natCast] at x0 x1 x2
      simp only at x0 x1 x2 l0 g0 l1 g1 l2 g2 hbad hjs hmem
      have HEr := Hd.mk (EdC.mk g0 g1 g2 l0 l1 l2)
      have hba : Below wr.heap.size wr (wr.alloc (.cells #[.slice A0 st.length c0, .slice A1 d.length c1, .slice A2 x.length c2] 28)) := (Below.refl _ _).alloc (Nat.le_refl _) _
      have HIT := Hd.mk (itself_c (HEr.out.below hba))
      have HBA := Hd.mk hba
      have HBAD := Hd.mk hbad
      have HJS := Hd.mk hjs
      have HM := Hd.mk hmem
      have HBw := Hd.mk hBw
      clear hg g0 g1 g2 l0 l1 l2 hba hbad hjs hmem hBw
      go_wp2_with fail
      refine HIT.out.mono ?_
      rintro e w2 ⟨rfl, hb2⟩
      have hbg : Below g w0 w2 := below_go HG.out (below_go HG.out HB.out HBA.out) hb2
      have hT2 := blk_below HT0.out (show Below w0.heap.size w0 w2 by rw [HG.out]; exact hbg)
      have hr2 := pw_own_below (pw_own_below HR.out HBA.out) hb2
      have hall := fun h => ited_all (st := st) (d := d) (x := x) h
      have hbad := HBAD.out
      obtain ⟨⟨sz, code⟩, hit⟩ : ∃ r, ited st d x = r := ⟨_, rfl⟩
      rw [hit] at hall hbad ⊢
      simp only at hall hbad ⊢
      have HIE := Hd.mk hit
      by_cases h0 : code = 0
      · subst h0
        obtain ⟨_, _, ha, hx, hsz⟩ := hall rfl
        have fz := World.ownsRow.frozenAt hr2 i
        have hcg := World.ownsRow.cellAt hr2 i (by omega)
        rw [iv, List.getElem?_map, jz_at hil, Option.map_some] at hcg
        have hs := (World.ownsRow.stored hr2 i (.int .i64 sz)).1
        rw [iv_set, hsz, ha, hx, HJS.out] at hs
        have HS := Hd.mk hs
        have HBG := Hd.mk hbg
        have hsz' : sz = (d.length : Int) + x.length := by rw [hsz, ha, hx]
        subst hsz'
        clear hs hall hbad hT2 hr2 hbg hit HIT HEr HBAD x0 x1 x2 hb2 hsz ha hx
        go_wp2
        go_roundg gk
        case measure => omega
        case rel =>
          refine ⟨i + 1, rfl, by omega, ⟨fun e he => ?_⟩, HS, ⟨HBG.out.setCell (Nat.le_refl _) _⟩⟩
          rw [HM.out] at he
          rcases List.mem_append.1 he with he | he
          · exact HK.out e he
          · rw [List.mem_singleton.1 he]
            simp only
            rw [HIE.out]
      · have hne : (code != 0) = true := by simpa using h0
        have hqq := HQ.out
        unfold joinE at hqq
        rw [hbad h0, if_pos h0] at hqq
        have f0 := blk_frozen hT2 0
        have f1 := blk_frozen hT2 1
        have f2 := blk_frozen hT2 2
        have cT0 := blk_cell hT2 0
        have cT1 := blk_cell hT2 1
        have cT2 := blk_cell hT2 2
        simp at cT0 cT1 cT2
        have HT2 := Hd.mk hT2
        have HQQ := Hd.mk hqq
        have HBG := Hd.mk hbg
        have H0 := Hd.mk h0
        clear hall hbad hT2 hr2 hbg hit HIT HEr HBAD x0 x1 x2 hb2 h0 hqq
        go_wp2
        refine leaveJ (b := w.heap.size) rfl rfl (blk3 HT2.out _ _ _) ?_
        rw [← HQQ.out]
        exact normR_bad (Nat.le_refl _) (below_step HB0.out (by rw [HG.out]; exact HBG.out)) _ _ _
end Go.Proofs.Ytemlbjpefomboaa
