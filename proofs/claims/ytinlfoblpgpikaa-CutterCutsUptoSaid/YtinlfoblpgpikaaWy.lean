/- cutter: ways: an edit's bytes, one by one. (Turned from edit/Or.) -/
import Derived.Test.YtinlfoblpgpikaaBs
namespace Go.Proofs.Ytinlfoblpgpikaa
open Go.RowKit Go.Shelf Go.Proofs.YtinlfoblpgpikaaW.PrintWords Go.Proofs.YtinlfoblpgpikaaW.PrintLast Go.Proofs.YtinlfoblpgpikaaW.PrintMore Go.Proofs.Ytinlfoblpgpikaa.Pr
set_option linter.unusedVariables false
set_option linter.unusedSimpArgs false
attribute [local go_sem] Oper.semAt_some
/-- Of a fence the functions alone. -/
@[reducible] def FN (p : FuncId → Prop) : Fence := { fn := p, depth := none, alive := false, round := none }
/-- A way as the program has it: added, place, byte. -/
def enc91 (o : S94) : Value := .agg #[.bool o.f0, .int .i64 o.f1, .int .u8 o.f2]
set_option maxHeartbeats 8000000 in
theorem ways1_in (p : FuncId → Prop) (hF : p 61) (l Be n1 : Nat) (A0 : Option Addr) (c0 : Nat) (st : List S82) (A1 : Option Addr) (c1 : Nat) (d : List Int) (A2 : Option Addr) (c2 : Nat) (x : List Int)
    (J : List (Nat × Obj) → Nat → World → Prop) (Jx : World → Prop) (Jp : List PanicEntry → World → Prop) (hm : st.all may = true) (hda : sA st = d.length) (hxc : sC st = x.length) (hdl : d.length ≤ 16777216) (hxl : x.length ≤ 16777216)
    (hR : ∀ X i W, J X i W → EdB W Be A0 c0 st A1 c1 d A2 c2 x ∧ ∀ p ∈ X, W.heap[p.1]? = some p.2) (hG : ∀ X i W o, o.isCells = true → J X i W → J ((W.heap.size, o) :: X) i (W.alloc o)) (hst : ∀ X i W W', J X i W → Bk n1 W W' → J X i W')
    (hY : ∀ X i W, i < (og st d x 0).length → J X i W → YieldAt (FN p) 0 Try.prog l #[enc91 ((og st d x 0).getD i z94)] W (RoundGives (J X) Jx Jp i)) (W : World) (h0 : J [] 0 W) :
    CallsIn (FN p) 0 Try.prog 61 #[.func (.yield l) #[] #[], .pointer (some ⟨Be, 0, none⟩)] W (IterGives (fun i W => ∃ X, J X i W) Jx Jp (og st d x 0).length) := by
  obtain ⟨L, hL⟩ : ∃ L, og st d x 0 = L := ⟨_, rfl⟩
  have HS : Hd (L = og st d x 0) := ⟨hL.symm⟩
  rw [hL] at hY ⊢
  have HY := Hd.mk hY
  have HR := Hd.mk hR
  have HG := Hd.mk hG
  have HST := Hd.mk hst
  have HJ0 := Hd.mk h0
  have HM := Hd.mk hm
  have HDA := Hd.mk hda
  have HXC := Hd.mk hxc
  have hr := (HR.out _ _ _ h0).1
  have cb0 := blk_cell hr.b 0
  simp at cb0
  have HB := Hd.mk hr
  clear hY hR hst h0 hL hm hda hxc hG hr
  refine callsIn_of_wp Try.func61 rfl hF ?_ rfl
  simp only [Try.ntmps61, List.size_toArray, List.length_cons, List.length_nil, Nat.reduceAdd, Nat.reduceSub, Array.replicate_succ, Array.replicate_zero, List.push_toArray, List.append_toArray, List.nil_append, List.cons_append]
  gi_wp2
  gi_loopw [3, 4, 5, 11] (fun y3 y4 y5 y11 wr => ∃ (i pz kd kx : Nat) (a : Int) (X : List (Nat × Obj)), y3 = .int .i64 (wrap64 a) ∧ y4 = .int .i64 kd ∧ y5 = .int .i64 kx ∧ y11 = .int .i64 i ∧ i ≤ st.length ∧ kd ≤ d.length ∧ kx ≤ x.length ∧ pz ≤ L.length ∧
    Hd (L.drop pz = og (st.drop i) (d.drop kd) (x.drop kx) a) ∧ Hd (sA (st.drop i) = (d.drop kd).length) ∧ Hd (sC (st.drop i) = (x.drop kx).length) ∧ Hd (J X pz wr)) (fun _ _ _ y _ => st.length - (intOf y).toNat)
  case atStart => exact ⟨0, 0, 0, 0, 0, [], (by rw [w64 0 (by omega)]), rfl, rfl, rfl, by omega, by omega, by omega, by omega, ⟨by rw [List.drop_zero, List.drop_zero, List.drop_zero, List.drop_zero, HS.out]⟩, ⟨HDA.out⟩, ⟨HXC.out⟩, HJ0⟩
  case round =>
    obtain ⟨i, pz, kd, kx, a, X, rfl, rfl, rfl, rfl, hi, hkd, hkx, hpz, HL, Hda, Hxc, HJ⟩ := hrel
    have hr := (HR.out _ _ _ HJ.out).1
    by_cases hlt : i < st.length
    · obtain ⟨ad, e, hx0, hx1, hx2⟩ := at_T82 hr.r.s (i : Int) (by omega) (by omega)
      subst e
      have hd := drop_rd st i hlt
      have hmi : may (rd_T82 st i) = true := by
        have := all_drop HM.out i
        rw [hd, List.all_cons, Bool.and_eq_true] at this
        exact this.1
      obtain ⟨⟨f0, f1, f2⟩, hs⟩ : ∃ s, rd_T82 st i = s := ⟨_, rfl⟩
      rw [hs] at hx0 hx1 hx2 hd hmi
      simp only [Int.toNat_natCast] at hx0 hx1 hx2
      have Hmi := Hd.mk hmi
      have Hdd := Hd.mk hd
      clear hd hmi hr hs
      gi_wp2
      obtain ⟨o82, ho⟩ : ∃ o, (Obj.cells #[.int .i64 f0, .int .i64 f1, .int .i64 f2] 82) = o := ⟨_, rfl⟩
      have HJz := Hd.mk (HG.out X pz wr o82 (by rw [← ho]; rfl) HJ.out)
      rw [ho]
      obtain ⟨wz, hwz⟩ : ∃ w, wr.alloc o82 = w := ⟨_, rfl⟩
      rw [hwz] at HJz ⊢
      obtain ⟨X', hX⟩ : ∃ X', (wr.heap.size, o82) :: X = X' := ⟨_, rfl⟩
      rw [hX] at HJz
      have hmem : (wr.heap.size, o82) ∈ X' := by rw [← hX]; exact List.mem_cons_self
      obtain ⟨b7, hb7⟩ : ∃ b, wr.heap.size = b := ⟨_, rfl⟩
      rw [hb7] at hmem ⊢
      have HBX : Hd (∀ i W, J X' i W → W.heap[b7]? = some (.cells #[.int .i64 f0, .int .i64 f1, .int .i64 f2] 82 (0, 0))) := ⟨fun i W h => by have := (HR.out _ _ _ h).2 _ hmem; rw [← ho] at this; exact this⟩
      have HSA := Hd.mk (show f0 + sA (st.drop (i + 1)) = (d.drop kd).length by rw [← Hda.out, Hdd.out]; rfl)
      have HSC := Hd.mk (show f1 + sC (st.drop (i + 1)) = (x.drop kx).length by rw [← Hxc.out, Hdd.out]; rfl)
      have HLr := Hd.mk (show L.drop pz = ogr f0.toNat f1.toNat f2 (st.drop (i + 1)) (d.drop kd) (x.drop kx) a by rw [HL.out, Hdd.out, og_cons])
      have hmm := (may_iff _).1 Hmi.out
      simp only at hmm
      have HAn := Hd.mk (sA_nn _ (all_drop HM.out (i + 1)))
      have HCn := Hd.mk (sC_nn _ (all_drop HM.out (i + 1)))
      obtain ⟨n0, hn0⟩ := Int.eq_ofNat_of_zero_le hmm.1
      obtain ⟨m0, hm0⟩ := Int.eq_ofNat_of_zero_le hmm.2.2.1
      subst hn0
      subst hm0
      simp only [Int.toNat_natCast] at HLr
      have hn1 : n0 ≤ 16777216 := by omega
      have hm1 : m0 ≤ 16777216 := by omega
      have HF2 := Hd.mk hmm.2.2.2.2
      have HJB := Hd.mk (HBX.out _ _ HJz.out)
      have cb7 := blk_cell HJB.out 0
      simp at cb7
      clear hX hwz ho hb7 hmem hx0 hx1 hx2 Hmi hmm HL HJ Hda Hxc cb0
      gi_wp2
      gi_loopw [3, 4, 17] (fun y3 y4 y17 wr => ∃ (q pq ke : Nat) (b : Int), y3 = .int .i64 (wrap64 b) ∧ y4 = .int .i64 ke ∧ y17 = .int .i64 q ∧ q ≤ n0 ∧ ke ≤ d.length ∧ pq ≤ L.length ∧ Hd (L.drop pq = ogr (n0 - q) m0 f2 (st.drop (i + 1)) (d.drop ke) (x.drop kx) b) ∧
        Hd (((n0 - q : Nat) : Int) + sA (st.drop (i + 1)) = (d.drop ke).length) ∧ Hd (J X' pq wr)) (fun _ _ y _ => n0 - (intOf y).toNat)
      case atStart => exact ⟨0, pz, kd, a, rfl, rfl, rfl, by omega, hkd, hpz, ⟨by rw [HLr.out]; rfl⟩, ⟨HSA.out⟩, HJz⟩
      case round =>
        clear HLr HSA HJz HJB cb7
        obtain ⟨q, pq, ke, b, rfl, rfl, rfl, hq, hke, hpq, HL, HSA, HJ⟩ := hrel
        by_cases hqn : q < n0
        · have hlk : ke < d.length := by
            have h1 := HSA.out
            have h2 := HAn.out
            rw [List.length_drop] at h1
            omega
          obtain ⟨n2, hn2⟩ : ∃ n2, n0 - q = n2 + 1 := ⟨n0 - q - 1, by omega⟩
          have hL := HL.out
          rw [hn2, List.drop_eq_getElem_cons hlk, ogr_add] at hL
          have hlt2 : pq < L.length := by
            rcases Nat.lt_or_ge pq L.length with h | h
            · exact h
            · rw [List.drop_eq_nil_of_le h] at hL; cases hL
          rw [List.drop_eq_getElem_cons hlt2] at hL
          have hg : L.getD pq z94 = ⟨true, wrap64 b, d[ke]⟩ := by
            rw [List.getD_eq_getElem?_getD, List.getElem?_eq_getElem hlt2, Option.getD_some]
            exact (List.cons.inj hL).1
          have HL2 := Hd.mk (List.cons.inj hL).2
          have hr := (HR.out _ _ _ HJ.out).1
          obtain ⟨ad1, e1, hc1⟩ := Kd.at_int hr.r.di (ke : Int) (by omega) (by omega)
          subst e1
          have hrd : rd d (ke : Int) = d[ke] := by simp [rd, List.getD_eq_getElem?_getD, List.getElem?_eq_getElem hlk]
          rw [hrd, Int.toNat_natCast] at hc1
          obtain ⟨b0, hb0⟩ : ∃ z, d[ke] = z := ⟨_, rfl⟩
          rw [hb0] at hc1 hg
          have cb1 := blk_cell hr.b 1
          simp at cb1
          obtain ⟨fn, tmps, assign, body, hy, hRd⟩ := HY.out _ pq _ hlt2 HJ.out
          rw [hg] at hy
          dsimp only [enc91] at hy
          have HRd := Hd.mk hRd
          have hlp : decide ((ke : Int) < (d.length : Int)) = true := decide_eq_true (by omega)
          have hln : decide ((0 : Int) ≤ (ke : Int)) = true := decide_eq_true (by omega)
          clear hg hL hr HL hRd hrd hb0
          gi_wp2
          refine HRd.out.mono ?_
          rintro e W3 (⟨rfl, hJ3⟩ | ⟨rfl, hJx⟩ | ⟨ch, rfl, hJp⟩)
          · have HJ3 := Hd.mk hJ3
            clear hJ3 HRd hy hc1 cb1
            gi_wp2
            have hsl := HSA.out
            rw [List.length_drop] at hsl
            refine ⟨⟨q + 1, pq + 1, ke + 1, b + 1, by rw [w64_add], by go_num, by go_num, by omega, by omega, by omega, ⟨by rw [HL2.out, show n0 - (q + 1) = n2 by omega]⟩, ⟨by rw [List.length_drop]; omega⟩, HJ3⟩, by simp [intOf]; omega⟩
          · gi_wp2
            refine bodyPost_ret (results_none rfl _ _ _) rfl ?_
            exact .inl ⟨_, rfl, .inr hJx⟩
          · exact ⟨rfl, .inr ⟨ch, rfl, hJp⟩⟩
        · obtain rfl : q = n0 := by omega
          rw [Nat.sub_self] at HL HSA
          have HJB := Hd.mk (HBX.out _ _ HJ.out)
          have cb7 := blk_cell HJB.out 1
          simp at cb7
          gi_wp2
          gi_loopw [5, 36] (fun y5 y36 wr => ∃ (q pq ky : Nat), y5 = .int .i64 ky ∧ y36 = .int .i64 q ∧ q ≤ m0 ∧ ky ≤ x.length ∧ pq ≤ L.length ∧ Hd (L.drop pq = ogr 0 (m0 - q) f2 (st.drop (i + 1)) (d.drop ke) (x.drop ky) b) ∧
            Hd (((m0 - q : Nat) : Int) + sC (st.drop (i + 1)) = (x.drop ky).length) ∧ Hd (J X' pq wr)) (fun _ y _ => m0 - (intOf y).toNat)
          case atStart => exact ⟨0, pq, kx, rfl, rfl, by omega, hkx, hpq, ⟨by rw [HL.out]; rfl⟩, ⟨HSC.out⟩, HJ⟩
          case round =>
            clear HL HSC HJ cb7 HJB hpq
            obtain ⟨q, pq, ky, rfl, rfl, hq, hky, hpq, HL, HSC, HJ⟩ := hrel
            by_cases hqn : q < m0
            · have hlk : ky < x.length := by
                have h1 := HSC.out
                have h2 := HCn.out
                rw [List.length_drop] at h1
                omega
              obtain ⟨n2, hn2⟩ : ∃ n2, m0 - q = n2 + 1 := ⟨m0 - q - 1, by omega⟩
              have hL := HL.out
              rw [hn2, List.drop_eq_getElem_cons hlk, ogr_copy] at hL
              have hlt2 : pq < L.length := by
                rcases Nat.lt_or_ge pq L.length with h | h
                · exact h
                · rw [List.drop_eq_nil_of_le h] at hL; cases hL
              rw [List.drop_eq_getElem_cons hlt2] at hL
              have hg : L.getD pq z94 = ⟨false, 0, x[ky]⟩ := by
                rw [List.getD_eq_getElem?_getD, List.getElem?_eq_getElem hlt2, Option.getD_some]
                exact (List.cons.inj hL).1
              have HL2 := Hd.mk (List.cons.inj hL).2
              have hr := (HR.out _ _ _ HJ.out).1
              obtain ⟨ad1, e1, hc1⟩ := Kd.at_int hr.r.ex (ky : Int) (by omega) (by omega)
              subst e1
              have hrd : rd x (ky : Int) = x[ky] := by simp [rd, List.getD_eq_getElem?_getD, List.getElem?_eq_getElem hlk]
              rw [hrd, Int.toNat_natCast] at hc1
              obtain ⟨b0, hb0⟩ : ∃ z, x[ky] = z := ⟨_, rfl⟩
              rw [hb0] at hc1 hg
              have cb2 := blk_cell hr.b 2
              simp at cb2
              obtain ⟨fn, tmps, assign, body, hy, hRd⟩ := HY.out _ pq _ hlt2 HJ.out
              rw [hg] at hy
              dsimp only [enc91] at hy
              have HRd := Hd.mk hRd
              have hlp : decide ((ky : Int) < (x.length : Int)) = true := decide_eq_true (by omega)
              have hln : decide ((0 : Int) ≤ (ky : Int)) = true := decide_eq_true (by omega)
              clear hg hL hr HL hRd hrd hb0
              gi_wp2
              refine HRd.out.mono ?_
              rintro e W3 (⟨rfl, hJ3⟩ | ⟨rfl, hJx⟩ | ⟨ch, rfl, hJp⟩)
              · have HJ3 := Hd.mk hJ3
                clear hJ3 HRd hy hc1 cb2
                gi_wp2
                have hsl := HSC.out
                rw [List.length_drop] at hsl
                refine ⟨⟨q + 1, pq + 1, ky + 1, by go_num, by go_num, by omega, by omega, by omega, ⟨by rw [HL2.out, show m0 - (q + 1) = n2 by omega]⟩, ⟨by rw [List.length_drop]; omega⟩, HJ3⟩, by simp [intOf]; omega⟩
              · gi_wp2
                refine bodyPost_ret (results_none rfl _ _ _) rfl ?_
                exact .inl ⟨_, rfl, .inr hJx⟩
              · exact ⟨rfl, .inr ⟨ch, rfl, hJp⟩⟩
            · obtain rfl : q = m0 := by omega
              rw [Nat.sub_self] at HL HSC
              have HJB := Hd.mk (HBX.out _ _ HJ.out)
              have cb7 := blk_cell HJB.out 2
              simp at cb7
              have hfit : st.length ≤ 9223372036854775807 := HB.out.r.s.2.1
              gi_wp2
              rw [w64_add]
              exact ⟨⟨i + 1, pq, ke, ky, b + f2, X', rfl, rfl, rfl, by go_num, by omega, by omega, by omega, by omega, ⟨by rw [HL.out, ogr_end]⟩, ⟨by have := HSA.out; simpa using this⟩, ⟨by have := HSC.out; simpa using this⟩, HJ⟩, by simp [intOf]; omega⟩
    · obtain rfl : i = st.length := by omega
      have hLe := HL.out
      rw [List.drop_length] at hLe
      have hpe : pz = L.length := by
        have := List.drop_eq_nil_iff.1 (show L.drop pz = [] from hLe)
        omega
      subst hpe
      clear hLe hr
      gi_wp2
      go_end0
      exact .inl ⟨_, rfl, .inl ⟨X, HJ.out⟩⟩
end Go.Proofs.Ytinlfoblpgpikaa
