/- vcd: origins, and their iterator. (Turned from edit/Or.) -/
import Derived.Test.YtmfnjmecnhagmaaBs
import Derived.Shelf.Abstract
import Derived.Shelf.RegionOpen
import Derived.OwnWalkIn
import Derived.TacticsInMore
import Derived.LoopNIn
import Derived.LoopIn
import Derived.BigRegionIn
namespace Go.Proofs.Ytmfnjmecnhagmaa
open Go.RowKit Go.Shelf Go.Proofs.YtmfnjmecnhagmaaW.PrintWords Go.Proofs.YtmfnjmecnhagmaaW.PrintLast Go.Proofs.YtmfnjmecnhagmaaW.PrintMore Go.Proofs.Ytmfnjmecnhagmaa.Pr
set_option linter.unusedVariables false
set_option linter.unusedSimpArgs false
attribute [local go_sem] Oper.semAt_some
/-- Of a fence the functions alone. -/
@[reducible] def FN (p : FuncId → Prop) : Fence := { fn := p, depth := none, alive := false, round := none }
/-- An origin as the program has it: own, place, byte. -/
def enc89 (o : S94) : Value := .agg #[.bool (!o.f0), .int .i64 o.f1, .int .u8 o.f2]
/-- A part of a row, to its end. -/
structure Sfx (A : Option Addr) (l : List Int) (A' : Option Addr) (c' : Nat) (l' : List Int) : Prop where
  hc : l'.length ≤ c'
  at_ : ∀ W, Kd.C (Kd.int .u8) W A l.length l → Kd.C (Kd.int .u8) W A' l'.length l'
theorem Sfx.refl {A : Option Addr} {c : Nat} {l : List Int} (h : l.length ≤ c) : Sfx A l A c l := ⟨h, fun _ h => h⟩
theorem Sfx.tail {A : Option Addr} {l : List Int} {A' : Option Addr} {c' : Nat} {b : Int} {l' : List Int} (h : Sfx A l A' c' (b :: l')) : Sfx A l (if c' = 1 then A' else A'.map (·.add 1)) (c' - 1) l' :=
  ⟨by have := h.hc; simp at this; omega, fun W hW => by
    have := Kd.C_drop (h.at_ W hW) (m := 1) (by simp) h.hc
    simpa [Kd.int, Kd.scalar] using this⟩
theorem Sfx.head {A : Option Addr} {l : List Int} {A' : Option Addr} {c' : Nat} {b : Int} {l' : List Int} {W : World} (h : Sfx A l A' c' (b :: l')) (hW : Kd.C (Kd.int .u8) W A l.length l) : ∃ ad, A' = some ad ∧ W.cell? ad = some (.int .u8 b) := by
  obtain ⟨ad, e, hc⟩ := Kd.at_int (h.at_ W hW) 0 (by omega) (by simp)
  exact ⟨ad, e, by simpa [rd, Addr.add] using hc⟩
set_option maxHeartbeats 8000000 in
theorem org1_in (p : FuncId → Prop) (hF : p 80) (l Be n1 : Nat) (A0 : Option Addr) (c0 : Nat) (st : List S100) (A1 : Option Addr) (c1 : Nat) (d : List Int) (A2 : Option Addr) (c2 : Nat) (x : List Int)
    (J : List (Nat × Obj) → Nat → World → Prop) (Jx : World → Prop) (Jp : List PanicEntry → World → Prop) (hm : st.all may = true) (hda : sA st = d.length) (hxc : sC st = x.length)
    (hR : ∀ X i W, J X i W → EdB W Be A0 c0 st A1 c1 d A2 c2 x ∧ ∀ p ∈ X, W.heap[p.1]? = some p.2) (hG : ∀ X i W o, o.isCells = true → J X i W → J ((W.heap.size, o) :: X) i (W.alloc o)) (hst : ∀ X i W W', J X i W → Bk n1 W W' → J X i W')
    (hY : ∀ X i W, i < (og st d x 0).length → J X i W → YieldAt (FN p) 0 Try.prog l #[enc89 ((og st d x 0).getD i z94)] W (RoundGives (J X) Jx Jp i)) (W : World) (h0 : J [] 0 W) :
    CallsIn (FN p) 0 Try.prog 80 #[.func (.yield l) #[] #[], .pointer (some ⟨Be, 0, none⟩)] W (IterGives (fun i W => ∃ X, J X i W) Jx Jp (og st d x 0).length) := by
  obtain ⟨L, hL⟩ : ∃ L, og st d x 0 = L := ⟨_, rfl⟩
  have HS : Hd (L = og st d x 0) := ⟨hL.symm⟩
  rw [hL] at hY ⊢
  have HY := Hd.mk hY
  have HR := Hd.mk hR
  have HG := Hd.mk hG
  have HST := Hd.mk hst
  have HJ0 := Hd.mk h0
  have HM := Hd.mk hm
  have HDA := Hd.mk hda
  have HXC := Hd.mk hxc
  have hr := (HR.out _ _ _ h0).1
  have cb0 := blk_cell hr.b 0
  have cb1 := blk_cell hr.b 1
  have cb2 := blk_cell hr.b 2
  simp at cb0 cb1 cb2
  have HB := Hd.mk hr
  clear hY hR hst h0 hL hm hda hxc hG hr
  refine callsIn_of_wp Try.func80 rfl hF ?_ rfl
  simp only [Try.ntmps80, List.size_toArray, List.length_cons, List.length_nil, Nat.reduceAdd, Nat.reduceSub, Array.replicate_succ, Array.replicate_zero, List.push_toArray, List.append_toArray, List.nil_append, List.cons_append]
  gi_wp2
  gi_region
  have HJ1 := Hd.mk (HST.out _ _ _ _ HJ0.out (Bk.of_below (Below.drew' W)))
  gi_wp2
  gi_loopw [3, 4, 5, 15] (fun y3 y4 y5 y15 wr => ∃ (i pz : Nat) (a : Int) (A' : Option Addr) (c' : Nat) (d' : List Int) (A'' : Option Addr) (c'' : Nat) (x' : List Int) (X : List (Nat × Obj)), y3 = .int .i64 (wrap64 a) ∧ y4 = .slice A' d'.length c' ∧ y5 = .slice A'' x'.length c'' ∧ y15 = .int .i64 i ∧ i ≤ st.length ∧ Hd (L.drop pz = og (st.drop i) d' x' a) ∧ pz ≤ L.length ∧ Hd (Sfx A1 d A' c' d') ∧ Hd (Sfx A2 x A'' c'' x') ∧ Hd (sA (st.drop i) = d'.length) ∧ Hd (sC (st.drop i) = x'.length) ∧ Hd (J X pz wr)) (fun _ _ _ y _ => st.length - (intOf y).toNat)
  case atStart => exact ⟨0, 0, 0, A1, c1, d, A2, c2, x, [], (by rw [w64 0 (by omega)]), rfl, rfl, rfl, by omega, ⟨by rw [List.drop_zero, List.drop_zero, HS.out]⟩, by omega, ⟨Sfx.refl HB.out.r.hd⟩, ⟨Sfx.refl HB.out.r.hx⟩, ⟨HDA.out⟩, ⟨HXC.out⟩, HJ1⟩
  case round =>
    obtain ⟨i, pz, a, A', c', d', A'', c'', x', X, rfl, rfl, rfl, rfl, hi, HL, hpz, HSd, HSx, Hda, Hxc, HJ⟩ := hrel
    have hr := (HR.out _ _ _ HJ.out).1
    have cb0 := blk_cell hr.b 0
    simp at cb0
    by_cases hlt : i < st.length
    · obtain ⟨ad, e, hx0, hx1, hx2⟩ := at_T100 hr.r.s (i : Int) (by omega) (by omega)
      subst e
      have hd := drop_rd st i hlt
      have hmi : may (rd_T100 st i) = true := by
        have := all_drop HM.out i
        rw [hd, List.all_cons, Bool.and_eq_true] at this
        exact this.1
      obtain ⟨⟨f0, f1, f2⟩, hs⟩ : ∃ s, rd_T100 st i = s := ⟨_, rfl⟩
      rw [hs] at hx0 hx1 hx2 hd hmi
      simp only [Int.toNat_natCast] at hx0 hx1 hx2
      have Hmi := Hd.mk hmi
      have Hdd := Hd.mk hd
      clear hd hmi hr hs
      gi_wp2
      obtain ⟨o100, ho⟩ : ∃ o, (Obj.cells #[.int .i64 f0, .int .i64 f1, .int .i64 f2] 100) = o := ⟨_, rfl⟩
      have HJz := Hd.mk (HG.out X pz wr o100 (by rw [← ho]; rfl) HJ.out)
      rw [ho]
      obtain ⟨wz, hwz⟩ : ∃ w, wr.alloc o100 = w := ⟨_, rfl⟩
      rw [hwz] at HJz ⊢
      obtain ⟨X', hX⟩ : ∃ X', (wr.heap.size, o100) :: X = X' := ⟨_, rfl⟩
      rw [hX] at HJz
      have hmem : (wr.heap.size, o100) ∈ X' := by rw [← hX]; exact List.mem_cons_self
      obtain ⟨b7, hb7⟩ : ∃ b, wr.heap.size = b := ⟨_, rfl⟩
      rw [hb7] at hmem ⊢
      have HBX : Hd (∀ i W, J X' i W → W.heap[b7]? = some (.cells #[.int .i64 f0, .int .i64 f1, .int .i64 f2] 100 (0, 0))) := ⟨fun i W h => by have := (HR.out _ _ _ h).2 _ hmem; rw [← ho] at this; exact this⟩
      have HSA := Hd.mk (show f0 + sA (st.drop (i + 1)) = d'.length by rw [← Hda.out, Hdd.out]; rfl)
      have HSC := Hd.mk (show f1 + sC (st.drop (i + 1)) = x'.length by rw [← Hxc.out, Hdd.out]; rfl)
      have HLr := Hd.mk (show L.drop pz = ogr f0.toNat f1.toNat f2 (st.drop (i + 1)) d' x' a by rw [HL.out, Hdd.out, og_cons])
      have hmm := (may_iff _).1 Hmi.out
      simp only at hmm
      have HAn := Hd.mk (sA_nn _ (all_drop HM.out (i + 1)))
      have HCn := Hd.mk (sC_nn _ (all_drop HM.out (i + 1)))
      obtain ⟨n0, hn0⟩ := Int.eq_ofNat_of_zero_le hmm.1
      obtain ⟨m0, hm0⟩ := Int.eq_ofNat_of_zero_le hmm.2.2.1
      subst hn0
      subst hm0
      simp only [Int.toNat_natCast] at HLr
      have hn1 : n0 ≤ 16777216 := by omega
      have hm1 : m0 ≤ 16777216 := by omega
      clear hX hwz ho hb7 hmem hx0 hx1 hx2 Hmi hmm cb0 HL HJ Hda Hxc
      gi_loopw [3, 4, 21] (fun y3 y4 y21 wr => ∃ (q pq : Nat) (b : Int) (A1' : Option Addr) (c1' : Nat) (d1 : List Int), y3 = .int .i64 (wrap64 b) ∧ y4 = .slice A1' d1.length c1' ∧ y21 = .int .i64 q ∧ q ≤ n0 ∧ Hd (L.drop pq = ogr (n0 - q) m0 f2 (st.drop (i + 1)) d1 x' b) ∧ pq ≤ L.length ∧ Hd (Sfx A1 d A1' c1' d1) ∧ Hd (((n0 - q : Nat) : Int) + sA (st.drop (i + 1)) = d1.length) ∧ Hd (J X' pq wr)) (fun _ _ y _ => n0 - (intOf y).toNat)
      case atStart => exact ⟨0, pz, a, A', c', d', rfl, rfl, rfl, by omega, ⟨by rw [HLr.out]; rfl⟩, hpz, HSd, ⟨HSA.out⟩, HJz⟩
      case round =>
        clear HLr HSA HJz HSd
        obtain ⟨q, pq, b, A1', c1', d1, rfl, rfl, rfl, hq, HL, hpq, HSd, HSA, HJ⟩ := hrel
        by_cases hqn : q < n0
        · obtain ⟨b0, d2, rfl⟩ : ∃ b0 d2, d1 = b0 :: d2 := by
            cases d1 with
            | nil => have h1 := HSA.out; have h2 := HAn.out; simp at h1; omega
            | cons b0 d2 => exact ⟨b0, d2, rfl⟩
          obtain ⟨n2, hn2⟩ : ∃ n2, n0 - q = n2 + 1 := ⟨n0 - q - 1, by omega⟩
          have hL := HL.out
          rw [hn2, ogr_add] at hL
          have hlt2 : pq < L.length := by
            rcases Nat.lt_or_ge pq L.length with h | h
            · exact h
            · rw [List.drop_eq_nil_of_le h] at hL; cases hL
          rw [List.drop_eq_getElem_cons hlt2] at hL
          have hg : L.getD pq z94 = ⟨true, wrap64 b, b0⟩ := by
            rw [List.getD_eq_getElem?_getD, List.getElem?_eq_getElem hlt2, Option.getD_some]
            exact (List.cons.inj hL).1
          have HL2 := Hd.mk (List.cons.inj hL).2
          have hr := (HR.out _ _ _ HJ.out).1
          obtain ⟨ad1, e1, hc1⟩ := HSd.out.head hr.r.di
          subst e1
          obtain ⟨fn, tmps, assign, body, hy, hRd⟩ := HY.out _ pq _ hlt2 HJ.out
          rw [hg] at hy
          dsimp only [enc89] at hy
          rw [show (!true) = false from rfl] at hy
          have HRd := Hd.mk hRd
          clear hg hL hr HL hRd
          have hlp : (0 : Int) < ((b0 :: d2).length : Int) := by simp
          gi_wp2
          refine HRd.out.mono ?_
          rintro e W3 (⟨rfl, hJ3⟩ | ⟨rfl, hJx⟩ | ⟨ch, rfl, hJp⟩)
          · have HJ3 := Hd.mk (HST.out _ _ _ _ hJ3 (Bk.of_below (Below.drew' W3)))
            clear hJ3 HRd hy hc1
            gi_wp2
            gi_region
            gi_wp2
            have HSd2 : Hd (Sfx A1 d (if c1' = 1 then some ad1 else some ⟨ad1.block, ad1.off + 1, none⟩) (c1' - 1) d2) := ⟨by
              have := HSd.out.tail
              simpa [Addr.add] using this⟩
            have hsl := HSA.out
            simp only [List.length_cons] at hsl
            refine ⟨⟨q + 1, pq + 1, b + 1, _, _, d2, by rw [w64_add], rfl, by go_num, by omega, ⟨by rw [HL2.out, show n0 - (q + 1) = n2 by omega]⟩, by omega, HSd2, ⟨by omega⟩, HJ3⟩, by simp [intOf]; omega⟩
          · gi_wp2
            refine bodyPost_ret (results_none rfl _ _ _) rfl ?_
            exact .inl ⟨_, rfl, .inr hJx⟩
          · exact ⟨rfl, .inr ⟨ch, rfl, hJp⟩⟩
        · obtain rfl : q = n0 := by omega
          rw [Nat.sub_self] at HL HSA
          have HJB := Hd.mk (HBX.out _ _ HJ.out)
          have cb7 := blk_cell HJB.out 1
          simp at cb7
          gi_wp2
          gi_loopw [5, 38] (fun y5 y38 wr => ∃ (q pq : Nat) (A1'' : Option Addr) (c1'' : Nat) (x1 : List Int), y5 = .slice A1'' x1.length c1'' ∧ y38 = .int .i64 q ∧ q ≤ m0 ∧ Hd (L.drop pq = ogr 0 (m0 - q) f2 (st.drop (i + 1)) d1 x1 b) ∧ pq ≤ L.length ∧ Hd (Sfx A2 x A1'' c1'' x1) ∧ Hd (((m0 - q : Nat) : Int) + sC (st.drop (i + 1)) = x1.length) ∧ Hd (J X' pq wr)) (fun _ y _ => m0 - (intOf y).toNat)
          case atStart => exact ⟨0, pq, A'', c'', x', rfl, rfl, by omega, ⟨by rw [HL.out]; rfl⟩, hpq, HSx, ⟨HSC.out⟩, HJ⟩
          case round =>
            clear HL HSC HJ HSx cb7 HJB hpq
            obtain ⟨q, pq, A1'', c1'', x1, rfl, rfl, hq, HL, hpq, HSx, HSC, HJ⟩ := hrel
            by_cases hqn : q < m0
            · obtain ⟨b0, x2, rfl⟩ : ∃ b0 x2, x1 = b0 :: x2 := by
                cases x1 with
                | nil => have h1 := HSC.out; have h2 := HCn.out; simp at h1; omega
                | cons b0 d2 => exact ⟨b0, d2, rfl⟩
              obtain ⟨n2, hn2⟩ : ∃ n2, m0 - q = n2 + 1 := ⟨m0 - q - 1, by omega⟩
              have hL := HL.out
              rw [hn2, ogr_copy] at hL
              have hlt2 : pq < L.length := by
                rcases Nat.lt_or_ge pq L.length with h | h
                · exact h
                · rw [List.drop_eq_nil_of_le h] at hL; cases hL
              rw [List.drop_eq_getElem_cons hlt2] at hL
              have hg : L.getD pq z94 = ⟨false, 0, b0⟩ := by
                rw [List.getD_eq_getElem?_getD, List.getElem?_eq_getElem hlt2, Option.getD_some]
                exact (List.cons.inj hL).1
              have HL2 := Hd.mk (List.cons.inj hL).2
              have hr := (HR.out _ _ _ HJ.out).1
              obtain ⟨ad1, e1, hc1⟩ := HSx.out.head hr.r.ex
              subst e1
              obtain ⟨fn, tmps, assign, body, hy, hRd⟩ := HY.out _ pq _ hlt2 HJ.out
              rw [hg] at hy
              dsimp only [enc89] at hy
              rw [show (!false) = true from rfl] at hy
              have HRd := Hd.mk hRd
              clear hg hL hr HL hRd
              have hlp : (0 : Int) < ((b0 :: x2).length : Int) := by simp
              gi_wp2
              refine HRd.out.mono ?_
              rintro e W3 (⟨rfl, hJ3⟩ | ⟨rfl, hJx⟩ | ⟨ch, rfl, hJp⟩)
              · have HJ3 := Hd.mk hJ3
                clear hJ3 HRd hy hc1
                gi_wp2
                have HSx2 : Hd (Sfx A2 x (if c1'' = 1 then some ad1 else some ⟨ad1.block, ad1.off + 1, none⟩) (c1'' - 1) x2) := ⟨by
                  have := HSx.out.tail
                  simpa [Addr.add] using this⟩
                have hsl := HSC.out
                simp only [List.length_cons] at hsl
                refine ⟨⟨q + 1, pq + 1, _, _, x2, rfl, by go_num, by omega, ⟨by rw [HL2.out, show m0 - (q + 1) = n2 by omega]⟩, by omega, HSx2, ⟨by omega⟩, HJ3⟩, by simp [intOf]; omega⟩
              · gi_wp2
                refine bodyPost_ret (results_none rfl _ _ _) rfl ?_
                exact .inl ⟨_, rfl, .inr hJx⟩
              · exact ⟨rfl, .inr ⟨ch, rfl, hJp⟩⟩
            · obtain rfl : q = m0 := by omega
              rw [Nat.sub_self] at HL HSC
              have HJB := Hd.mk (HBX.out _ _ HJ.out)
              have cb7 := blk_cell HJB.out 2
              simp at cb7
              have hfit : st.length ≤ 9223372036854775807 := HB.out.r.s.2.1
              gi_wp2
              rw [w64_add]
              exact ⟨⟨i + 1, pq, b + f2, A1', c1', d1, A1'', c1'', x1, X', rfl, rfl, rfl, by go_num, by omega, ⟨by rw [HL.out, ogr_end]⟩, by omega, HSd, HSx, ⟨by have := HSA.out; simpa using this⟩, ⟨by have := HSC.out; simpa using this⟩, HJ⟩, by simp [intOf]; omega⟩
    · obtain rfl : i = st.length := by omega
      have hLe := HL.out
      rw [List.drop_length] at hLe
      have hpe : pz = L.length := by
        have := List.drop_eq_nil_iff.1 (show L.drop pz = [] from hLe)
        omega
      subst hpe
      clear hLe hr cb0
      gi_wp2
      go_end0
      exact .inl ⟨_, rfl, .inl ⟨X, HJ.out⟩⟩
set_option maxHeartbeats 1000000 in
theorem origins_calls (A0 : Option Addr) (c0 : Nat) (st : List S100) (A1 : Option Addr) (c1 : Nat) (d : List Int) (A2 : Option Addr) (c2 : Nat) (x : List Int) (w : World) (h : EdC w A0 c0 st A1 c1 d A2 c2 x) :
    Calls Try.prog 63 #[EdV A0 st.length c0 A1 d.length c1 A2 x.length c2] w fun e w' => ∃ Be, e = .returned (.func (.func 80) #[] #[.pointer (some ⟨Be, 0, none⟩)]) ∧ EdB w' Be A0 c0 st A1 c1 d A2 c2 x ∧ Below w.heap.size w w' ∧ w.heap.size ≤ Be := by
  have H := Hd.mk h
  clear h
  have hmf : ∀ (fn : Fn) (first cap : Array Value) (w : World), (Instr.makeFunc fn first cap).run Try.prog w = .ok (.func fn first cap) w := fun _ _ _ _ => rfl
  unfold EdV
  go_enter Try.func63, Try.ntmps63
  go_wp2
  go_ret
  have hb : Below w.heap.size w (w.alloc (.cells #[.slice A0 st.length c0, .slice A1 d.length c1, .slice A2 x.length c2] 37)) := (Below.refl _ _).alloc (Nat.le_refl _) _
  exact ⟨w.heap.size, rfl, ⟨blk_new w _, H.out.below hb⟩, hb, Nat.le_refl _⟩
end Go.Proofs.Ytmfnjmecnhagmaa
