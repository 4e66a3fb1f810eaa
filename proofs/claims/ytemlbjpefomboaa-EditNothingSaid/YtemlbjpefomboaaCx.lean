/- edit: the origins of two edits made one, told one by one. -/
import Derived.Test.YtemlbjpefomboaaCq
namespace Go.Proofs.Ytemlbjpefomboaa
open Go.RowKit Go.Shelf Go.Proofs.YtemlbjpefomboaaW.PrintWords Go.Proofs.YtemlbjpefomboaaW.PrintLast Go.Proofs.YtemlbjpefomboaaW.PrintMore Go.Proofs.Ytemlbjpefomboaa.Pr
set_option linter.unusedVariables false
set_option linter.unusedSimpArgs false
attribute [local go_sem] Oper.semAt_some
/-- What comes of an origin whose place is a place of the first edit's bytes. -/
def cmp1 (first : List S94) (o : S94) : S94 := if o.f0 = true then ⟨(first.getD o.f1.toNat z94).f0, (first.getD o.f1.toNat z94).f1, ((first.getD o.f1.toNat z94).f2 + o.f2) % 256⟩ else o
theorem origins_in {A0 : Option Addr} {c0 : Nat} {st : List S80} {A1 : Option Addr} {c1 : Nat} {d : List Int} {A2 : Option Addr} {c2 : Nat} {x : List Int} {w : World} (h : EdC w A0 c0 st A1 c1 d A2 c2 x) :
    CallsIn (FN EX) 0 Try.prog 52 #[EdV A0 st.length c0 A1 d.length c1 A2 x.length c2] w fun e w' => e = .returned (.func (.func 68) #[] #[.pointer (some ⟨w.heap.size, 0, none⟩)]) ∧ w' = w.alloc (.cells #[.slice A0 st.length c0, .slice A1 d.length c1, .slice A2 x.length c2] 28) := by
  have hmf : ∀ (fn : Fn) (first cap : Array Value) (w : World), (Instr.makeFunc fn first cap).run Try.prog w = .ok (.func fn first cap) w := fun _ _ _ _ => rfl
  unfold EdV
  refine callsIn_of_wp Try.func52 rfl ⟨_, Try.func52⟩ ?_ rfl
  simp only [Try.ntmps52, List.size_toArray, List.length_cons, List.length_nil, Nat.reduceAdd, Nat.reduceSub, Array.replicate_succ, Array.replicate_zero, List.push_toArray, List.append_toArray, List.nil_append, List.cons_append]
  gi_wp2
  go_ret
  exact ⟨rfl, rfl⟩
theorem Bk.setNew {n : Nat} {W W2 : World} (h : Bk n W W2) {b j : Nat} (hb : W.heap.size ≤ b) (v : Value) : Bk n W (W2.setCell ⟨b, j, none⟩ v) := by
  refine ⟨?_, ?_, ?_, ?_, fun k o hk hc => ?_⟩
  · exact h.os
  · exact h.tape
  · exact h.output
  · simpa [World.setCell] using h.size
  · have hlt := (Array.getElem?_eq_some_iff.1 hk).1
    exact (Below.heap_setCell W2 ⟨b, j, none⟩ v k (by simp only; omega)).trans (h.block k o hk hc)
set_option maxRecDepth 100000 in
set_option maxHeartbeats 8000000 in
theorem comp_iter {w : World} {Bb Bf : Nat} {A0 : Option Addr} {c0 : Nat} {st : List S80} {A1 : Option Addr} {c1 : Nat} {d : List Int} {A2 : Option Addr} {c2 : Nat} {x : List Int} {base : Nat} {v : Value} {first : List S94} (hE : EdB w Bb A0 c0 st A1 c1 d A2 c2 x) (hm : st.all may = true) (hda : sA st = d.length) (hxc : sC st = x.length)
    (hF : w.heap[Bf]? = some (.cells #[v] 100 (0, 0))) (hr : w.ownsRow base 89 3 v first.length (cells94 first)) (hin : Inn first.length (og st d x 0)) (hfit : first.length ≤ 16777216) :
    IterOf w 66 #[.pointer (some ⟨Bb, 0, none⟩), .pointer (some ⟨Bf, 0, none⟩)] ((og st d x 0).map (cmp1 first)) := by
  intro l n1 J Jx Jp hJ hG hst hx hp hY W hn h0
  obtain ⟨Av, cv, rfl⟩ := own_slice hr
  obtain ⟨L, hL⟩ : ∃ L, og st d x 0 = L := ⟨_, rfl⟩
  rw [hL] at hY hin
  have HIN := Hd.mk hin
  have HLL := Hd.mk hL
  have hIt := iterK_og (Be := W.heap.size + 1) (A0 := A0) (c0 := c0) (A1 := A1) (c1 := c1) (A2 := A2) (c2 := c2) hm hda hxc
  rw [hL, ] at hIt ⊢
  rw [List.length_map] at hY ⊢
  have HIT := Hd.mk hIt
  have HY := Hd.mk hY
  have HJ := Hd.mk hJ
  have HG := Hd.mk hG
  have HST := Hd.mk hst
  have HX := Hd.mk hx
  have HP := Hd.mk hp
  have HE := Hd.mk hE
  have HF := Hd.mk hF
  have HR := Hd.mk hr
  have HN := Hd.mk hn
  have HFIT := Hd.mk hfit
  have hb := (hJ _ _ _ h0).1
  have e1 := (EdB.mk (blk_below hE.b hb) (hE.r.below hb) : EdB W Bb A0 c0 st A1 c1 d A2 c2 x)
  have HEr := Hd.mk e1.r
  have e2 := blk_alloc e1.b (.cells #[.func (.yield l) #[] #[]] 103)
  have cb0 := blk_cell e2 0
  have cb1 := blk_cell e2 1
  have cb2 := blk_cell e2 2
  simp at cb0 cb1 cb2
  have HJ1 := Hd.mk (hG _ _ _ (.cells #[.func (.yield l) #[] #[]] 103) rfl h0)
  have hB1 : Below W.heap.size W (W.alloc (.cells #[.func (.yield l) #[] #[]] 103)) := (Below.refl _ _).alloc (Nat.le_refl _) _
  have hcall := origins_in (e1.r.below hB1)
  unfold EdV at hcall
  have HCALL := Hd.mk hcall
  have h52 : EX 52 := ⟨_, Try.func52⟩
  clear hin hL hm hda hxc hIt hY hJ hG hst hx hp hE hF hr hn hfit hb e1 e2 h0 hB1 hcall
  refine callsIn_of_wp_marks (n := 0) Try.func66 rfl ⟨_, Try.func66⟩ ?_ rfl
  simp only [Try.ntmps66, List.size_toArray, List.length_cons, List.length_nil, Nat.reduceAdd, Nat.reduceSub, Array.replicate_succ, Array.replicate_zero, List.push_toArray, List.append_toArray, List.nil_append, List.cons_append]
  gi_wp2_with fail
  refine HCALL.out.mono ?_
  rintro e W2 ⟨rfl, rfl⟩
  rw [World.size_alloc]
  have HJ2 := Hd.mk (HG.out _ _ _ (.cells #[.slice A0 st.length c0, .slice A1 d.length c1, .slice A2 x.length c2] 28) rfl HJ1.out)
  rw [World.size_alloc] at HJ2
  obtain ⟨W2, hW2⟩ : ∃ w_, (W.alloc (.cells #[.func (.yield l) #[] #[]] 103)).alloc (.cells #[.slice A0 st.length c0, .slice A1 d.length c1, .slice A2 x.length c2] 28) = w_ := ⟨_, rfl⟩
  have hs2 : W2.heap.size = W.heap.size + 2 := by rw [← hW2]; simp
  rw [hW2] at HJ2 ⊢
  have HW2 := Hd.mk (show n1 ≤ W2.heap.size by have := HN.out; omega)
  clear hW2 HJ1 HCALL cb0 cb1 cb2 h52 HEr hs2
  obtain ⟨Z, hZ⟩ : ∃ Z, [(W.heap.size + 1, Obj.cells #[.slice A0 st.length c0, .slice A1 d.length c1, .slice A2 x.length c2] 28 (0, 0)), (W.heap.size, Obj.cells #[.func (.yield l) #[] #[]] 103 (0, 0))] = Z := ⟨_, rfl⟩
  rw [hZ] at HJ2
  have HZ := Hd.mk hZ
  have HYB : Hd (∀ X i W', J (X ++ Z) i W' → W'.cell? ⟨W.heap.size, 0, none⟩ = some (.func (.yield l) #[] #[])) := ⟨fun X i W' h => by
    have := (HJ.out _ _ _ h).2 (W.heap.size, .cells #[.func (.yield l) #[] #[]] 103 (0, 0)) (List.mem_append_right _ (by rw [← HZ.out]; simp))
    exact (blk_cell this 0).trans rfl⟩
  have HEB : Hd (∀ X i W', J (X ++ Z) i W' → EdB W' (W.heap.size + 1) A0 c0 st A1 c1 d A2 c2 x) := ⟨fun X i W' h => by
    have := HJ.out _ _ _ h
    exact ⟨this.2 (W.heap.size + 1, .cells #[.slice A0 st.length c0, .slice A1 d.length c1, .slice A2 x.length c2] 28 (0, 0)) (List.mem_append_right _ (by rw [← HZ.out]; simp)), HE.out.r.below this.1⟩⟩
  clear hZ
  gi_wp2
  refine wp_rangeK (F := FN EX) rfl rfl (gf := 68) (lb := #[.pointer (some ⟨W.heap.size + 1, 0, none⟩)]) rfl ⟨_, Try.func68⟩ (enters_of Try.func68 (by kernel_rfl) rfl) (fun i => #[enc89 (L.getD i z94)]) (fun _ => rfl) L.length
    (fun X i W => J (X ++ Z) i W) (fun c W => c = .ret ∧ Jx W) Jp (.inr fun f hf => hf) HJ2.out (fun X i W W' h k => HST.out _ _ _ _ h (k.more HW2.out)) (fun X i W o ho h => HG.out _ _ _ _ ho h) (fun c W W' h k => ⟨h.1, HX.out _ _ h.2 (k.more HW2.out)⟩) (fun c W W' h k => HP.out _ _ _ h (k.more HW2.out)) ?seq ?round ?done ?stop ?pan
  case seq =>
    intro l' W3 J' Jx' Jp' hb3 hl hl2 hJI hGr hst' hx' hp' hY' h0'
    exact HIT.out l' W3.heap.size J' Jx' Jp' (fun X i W' hJ' => ⟨HEB.out X i W' (hJI X i W' hJ'), fun q hq => (HJ.out _ _ _ (hJI X i W' hJ')).2 q (List.mem_append_left _ hq)⟩) hGr hst' hx' hp' (fun X i W' hi hJ' => yieldAt_mono (hY' X i W' hi hJ') (fun e W' h => h.1)) W3 rfl h0'
  case round =>
    intro X l' o i W' hi hJi hl' ho hc
    obtain ⟨⟨fr, at_, by_⟩, hg⟩ : ∃ r, L.getD i z94 = r := ⟨_, rfl⟩
    simp only [hg]
    dsimp only [enc89]
    have hLi : L[i]'hi = ⟨fr, at_, by_⟩ := by rw [← hg, List.getD_eq_getElem?_getD, List.getElem?_eq_getElem hi, Option.getD_some]
    have hgm : (L.map (cmp1 first)).getD i z94 = cmp1 first ⟨fr, at_, by_⟩ := by
      rw [List.getD_eq_getElem?_getD, List.getElem?_map, List.getElem?_eq_getElem hi, hLi]
      rfl
    have HLI := Hd.mk hLi
    have HGM := Hd.mk hgm
    have HJi := Hd.mk hJi
    clear hg hJi ho hc hl' hLi hgm
    gi_wp2
    refine ⟨Ko.of (KeepsOthers.alloc _ _), fun W4 hb4 => ?_⟩
    have hbk : Bk n1 W' W4 := (Bk.of_below ((Below.refl _ _).alloc (Nat.le_refl _) _)).trans (hb4.more HW2.out)
    have h9 := hb4.block _ _ (blk_new W' (.cells #[.bool (!fr), .int .i64 at_, .int .u8 by_] 89)) (.inl rfl)
    have c90 := blk_cell h9 0
    have c91 := blk_cell h9 1
    have c92 := blk_cell h9 2
    simp at c90 c91 c92
    have HJ4 := Hd.mk (HST.out _ _ _ _ HJi.out hbk)
    have hyb := HYB.out _ _ _ HJ4.out
    cases fr with
    | false =>
      obtain ⟨fn, tmps, assign, body, hy, hRd⟩ := HY.out _ i _ hi HJ4.out
      rw [HGM.out, show cmp1 first ⟨false, at_, by_⟩ = ⟨false, at_, by_⟩ from rfl] at hy
      dsimp only [enc89] at hy
      rw [show (!false) = true from rfl] at hy
      have c90' : W4.cell? ⟨W'.heap.size, 0, none⟩ = some (.bool true) := c90
      have HRd := Hd.mk hRd
      clear c90 hRd hb4 hbk h9
      gi_wp2
      have hR' : RoundIn ((FN EX).inRound l') 0 Try.prog l fn tmps assign body W4 _ := HRd.out
      refine hR'.mono ?_
      rintro e W5 ⟨(⟨rfl, hJ5⟩ | ⟨rfl, hJx⟩ | ⟨ch, rfl, hJp⟩), hko⟩
      · have HJ5 := Hd.mk hJ5
        have HKO := Hd.mk (hko.more HW2.out)
        clear hJ5 HRd hy hko
        gi_wp2
        exact ⟨HKO.out, HJ5.out⟩
      · have HKO := Hd.mk (hko.more HW2.out)
        have HJX := Hd.mk hJx
        clear hJx HRd hy hko
        gi_wp2
        exact ⟨HKO.out, rfl, HJX.out⟩
      · exact ⟨rfl, hko.more HW2.out, hJp⟩
    | true =>
      have hmem : (⟨true, at_, by_⟩ : S94) ∈ L := by rw [← HLI.out]; exact List.getElem_mem hi
      obtain ⟨ha0, ha1⟩ := HIN.out _ hmem rfl
      simp only at ha0 ha1
      obtain ⟨k, rfl⟩ := Int.eq_ofNat_of_zero_le ha0
      have hbw := (HJ.out _ _ _ HJ4.out).1
      obtain ⟨ad, cv', ev, q0, q1, q2⟩ := at_O (pw_own_below HR.out hbw) (k := k) (by omega)
      have hbf := blk_cell (blk_below HF.out hbw) 0
      simp at hbf
      injection ev with ev1 ev2 ev3
      subst ev1
      subst ev3
      obtain ⟨⟨pf, pa, pb⟩, hp⟩ : ∃ p, first.getD k z94 = p := ⟨_, rfl⟩
      rw [hp] at q0 q1 q2
      simp only at q0 q1 q2
      have f90 := blk_frozen h9 0
      have f91 := blk_frozen h9 1
      have f92 := blk_frozen h9 2
      have hcm : cmp1 first ⟨true, ((k : Nat) : Int), by_⟩ = ⟨pf, pa, (pb + by_) % 256⟩ := by
        unfold cmp1
        rw [if_pos rfl]
        simp only [Int.toNat_natCast, hp]
      obtain ⟨W6, hW6⟩ : ∃ w_, (((W4.setCell ⟨W'.heap.size, 0, none⟩ (.bool (!pf))).setCell ⟨W'.heap.size, 1, none⟩ (.int .i64 pa)).setCell ⟨W'.heap.size, 2, none⟩ (.int .u8 pb)).setCell ⟨W'.heap.size, 2, none⟩ (.int .u8 ((pb + by_) % 256)) = w_ := ⟨_, rfl⟩
      have hbk6 : Bk n1 W' W6 := by
        rw [← hW6]
        exact (((hbk.setNew (Nat.le_refl _) _).setNew (Nat.le_refl _) _).setNew (Nat.le_refl _) _).setNew (Nat.le_refl _) _
      have HJ6 := Hd.mk (HST.out _ _ _ _ HJi.out hbk6)
      have hyb6 := HYB.out _ _ _ HJ6.out
      obtain ⟨fn, tmps, assign, body, hy, hRd⟩ := HY.out _ i _ hi HJ6.out
      rw [HGM.out, hcm] at hy
      dsimp only [enc89] at hy
      have hy2 := hy
      have h96 := blk_set (blk_set (blk_set (blk_set h9 0 (.bool (!pf))) 1 (.int .i64 pa)) 2 (.int .u8 pb)) 2 (.int .u8 ((pb + by_) % 256))
      have c62 := blk_cell h96 2
      simp at c62
      have hkx : Ko W2.heap.size W4 W6 := by
        rw [← hW6]
        exact Ko.of ((((KeepsOthers.setCell _ _ _).trans (KeepsOthers.setCell _ _ _)).trans (KeepsOthers.setCell _ _ _)).trans (KeepsOthers.setCell _ _ _))
      have HKX := Hd.mk hkx
      have c90' : W4.cell? ⟨W'.heap.size, 0, none⟩ = some (.bool false) := c90
      have HRd := Hd.mk hRd
      have hlen : ((k : Nat) : Int) < (first.length : Int) := ha1
      have HW6 := Hd.mk hW6
      clear c90 hRd hb4 hbk h9 hy hkx hbk6 hcm hp hmem hbw hW6 h96
      rw [← HW6.out] at hyb6 hy2 HRd
      gi_wp2
      have hR' : RoundIn ((FN EX).inRound l') 0 Try.prog l fn tmps assign body _ _ := HRd.out
      refine hR'.mono ?_
      rw [HW6.out]
      rintro e W5 ⟨(⟨rfl, hJ5⟩ | ⟨rfl, hJx⟩ | ⟨ch, rfl, hJp⟩), hko⟩
      · have HJ5 := Hd.mk hJ5
        have HKO := Hd.mk (HKX.out.trans (hko.more HW2.out))
        clear hJ5 HRd hy2 hko
        gi_wp2
        exact ⟨HKO.out, HJ5.out⟩
      · have HKO := Hd.mk (HKX.out.trans (hko.more HW2.out))
        have HJX := Hd.mk hJx
        clear hJx HRd hy2 hko
        gi_wp2
        exact ⟨HKO.out, rfl, HJX.out⟩
      · exact ⟨rfl, HKX.out.trans (hko.more HW2.out), hJp⟩
  case done =>
    intro X D W' hD hJd hd
    have HJD := Hd.mk (HST.out _ _ _ _ hJd (Bk.putObj (l := D) (o' := .deferred none) (by have := HW2.out; omega) hd rfl))
    have HD := Hd.mk hd
    clear hJd hd
    gi_wp2
    refine ⟨by simp, .inl ⟨_, _, rfl, run_takeDeferred HD.out, ?_⟩⟩
    exact ⟨_, results_none rfl _ _ _, .inl ⟨_, rfl, .inl ⟨_, HJD.out⟩⟩⟩
  case stop =>
    rintro D c W' hD ⟨rfl, hJx⟩ hd
    have HJD := Hd.mk (HX.out _ _ hJx (Bk.putObj (l := D) (o' := .deferred none) (by have := HW2.out; omega) hd rfl))
    have HD := Hd.mk hd
    clear hJx hd
    gi_wp2
    refine ⟨by simp, .inl ⟨_, _, rfl, run_takeDeferred HD.out, ?_⟩⟩
    exact ⟨_, results_none rfl _ _ _, .inl ⟨_, rfl, .inr HJD.out⟩⟩
  case pan =>
    intro D ch W' hD hJp hd
    have HJD := Hd.mk (HP.out _ _ _ hJp (Bk.putObj (l := D) (o' := .deferred none) (by have := HW2.out; omega) hd rfl))
    refine ⟨by simp, .inl ⟨_, _, rfl, run_takeDeferred hd, ?_⟩⟩
    exact .inr ⟨_, rfl, HJD.out⟩
end Go.Proofs.Ytemlbjpefomboaa
