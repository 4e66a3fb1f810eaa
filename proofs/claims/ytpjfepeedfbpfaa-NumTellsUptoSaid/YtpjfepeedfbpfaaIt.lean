/- num: the iterator of All. -/
import Derived.Test.YtpjfepeedfbpfaaAl
namespace Go.Proofs.Ytpjfepeedfbpfaa
open Go.RowKit Go.Shelf Go.Proofs.YtpjfepeedfbpfaaW.PrintWords Go.Proofs.YtpjfepeedfbpfaaW.PrintLast Go.Proofs.YtpjfepeedfbpfaaW.PrintMore
set_option linter.unusedVariables false
set_option linter.unusedSimpArgs false
attribute [local go_sem] Oper.semAt_some
theorem wide_depth : Fence.wide.depth = none := rfl
def encAt (x : Nat × Int) : Array Value := #[.int .i64 x.1, .int .u64 x.2]
theorem Bs.suf {w : World} {A : Option Addr} {n c m : Nat} {xs : List Int} (h : Bs w A n c xs) (hm : m ≤ n) : Bs w (A.map (·.add m)) (n - m) (c - m) (xs.drop m) := by
  refine ⟨Kd.C_of_reads (enc := Value.int .u8) (d := (0 : Int)) (h1 := fun _ => rfl) ⟨by rw [List.length_drop, h.len], by have := Kd.C_max h.C; omega, fun hn => ?_⟩, by have := h.hc; omega, fun x hx => h.hr x (List.mem_of_mem_drop hx)⟩
  obtain ⟨ad, e, _⟩ := at_byte h.C 0 (by omega)
  subst e
  refine ⟨_, rfl, fun j hj => ?_⟩
  obtain ⟨ad', e', hc'⟩ := at_byte h.C (m + j) (by omega)
  cases e'
  show w.cell? ((ad.add m).add j) = _
  rw [add_add, hc']
  simp [gb, List.getD_eq_getElem?_getD]
structure AllR (W : World) (Bx : Nat) (A : Option Addr) (n c : Nat) (xs : List Int) : Prop where
  b : Bxd W Bx (.slice A n c)
  r : Bs W A n c xs
set_option maxHeartbeats 2000000 in
theorem all1_in (l Bx : Nat) (A : Option Addr) (n c n1 : Nat) (xs : List Int) (J : Nat → World → Prop) (Jx : World → Prop) (Jp : List PanicEntry → World → Prop) (hn : n ≤ 140737488351232) (hxl : xs.length = n)
    (hR : ∀ i W, J i W → AllR W Bx A n c xs) (hst : ∀ i W W', J i W → Bk n1 W W' → J i W')
    (hY : ∀ i W, i < (allN xs).length → J i W → YieldAt Fence.wide 0 Try.prog l (encAt ((allN xs).getD i (0, 0))) W (RoundGives J Jx Jp i)) (W : World) (h0 : J 0 W) :
    CallsIn Fence.wide 0 Try.prog 37 #[.func (.yield l) #[] #[], .pointer (some ⟨Bx, 0, none⟩)] W (IterGives J Jx Jp (allN xs).length) := by
  obtain ⟨L, hL⟩ : ∃ L, allN xs = L := ⟨_, rfl⟩
  have HS : Hd (L = al xs (xs.length + 1) 0) := ⟨hL.symm⟩
  rw [hL] at hY ⊢
  have HY := Hd.mk hY
  have HR := Hd.mk hR
  have HST := Hd.mk hst
  have HJ0 := Hd.mk h0
  have HXL := Hd.mk hxl
  clear hY hR hst h0 hL hxl
  refine callsIn_of_wp Try.func37 rfl trivial ?_ rfl
  simp only [Try.ntmps37, List.size_toArray, List.length_cons, List.length_nil, Nat.reduceAdd, Nat.reduceSub, Array.replicate_succ, Array.replicate_zero, List.push_toArray, List.append_toArray, List.nil_append, List.cons_append]
  gi_wp2
  gi_loopw [3] (fun y wr => ∃ (i at_ k : Nat), y = .int .i64 at_ ∧ at_ ≤ n ∧ n + 1 ≤ k + at_ ∧ i ≤ L.length ∧ Hd (L.drop i = al xs k at_) ∧ Hd (J i wr)) (fun y _ => n - (intOf y).toNat)
  case atStart => exact ⟨0, 0, n + 1, rfl, by omega, by omega, by omega, ⟨by rw [List.drop_zero, HS.out, HXL.out]⟩, HJ0⟩
  case round =>
    obtain ⟨i, at_, k, rfl, hat, hk, hi, HL, HJ⟩ := hrel
    have hr := HR.out i wr HJ.out
    have cb := blk_cell hr.b 0
    simp at cb
    have HRR := Hd.mk hr
    clear hr
    by_cases hlt : at_ < n
    · have hmx := HRR.out.r.hc
      obtain ⟨⟨v, q, e⟩, hr⟩ : ∃ r, rdN (xs.drop at_) = r := ⟨_, rfl⟩
      have hBs := Hd.mk (HRR.out.r.suf (m := at_) (by omega))
      gi_wp2_with fail
      refine ⟨trivial, rfl, ?_⟩
      gi_at_call 30
      refine (callsIn_wide.2 (decode_calls _ _ _ (xs.drop at_) _ hBs.out.C hBs.out.hc hBs.out.hr)).mono ?_
      rw [hr]
      dsimp only [ret3]
      rintro e' w1 ⟨rfl, hb⟩
      have HJ1 := Hd.mk (HST.out _ _ _ HJ.out (Bk.of_below hb))
      clear hb hBs HRR cb HJ
      by_cases he : e = 0
      · subst he
        have hok := rdN_ok (xs.drop at_) (by rw [hr])
        rw [hr] at hok
        obtain ⟨m, hqm, hm0, hml⟩ := hok
        simp only at hqm
        subst hqm
        rw [List.length_drop, HXL.out] at hml
        obtain ⟨k, rfl⟩ : ∃ k', k = k' + 1 := ⟨k - 1, by omega⟩
        have hst := al_step xs k at_ m v hr
        have hLi : i < L.length := by
          rcases Nat.lt_or_ge i L.length with h | h
          · exact h
          · have := HL.out
            rw [List.drop_eq_nil_of_le h, hst] at this
            cases this
        have hd := HL.out
        rw [hst, List.drop_eq_getElem_cons hLi] at hd
        have hg : L.getD i (0, 0) = (at_, v) := by
          rw [List.getD_eq_getElem?_getD, List.getElem?_eq_getElem hLi, Option.getD_some]
          exact (List.cons.inj hd).1
        have HD := Hd.mk (List.cons.inj hd).2
        obtain ⟨fn, tmps, assign, body, hy, hRd⟩ := HY.out i w1 hLi HJ1.out
        rw [hg] at hy
        dsimp only [encAt] at hy
        have HRd := Hd.mk hRd
        clear hd hg hst hr HL hRd
        gi_wp2
        refine ⟨rfl, ?_⟩
        refine HRd.out.mono ?_
        rintro e W3 (⟨rfl, hJ3⟩ | ⟨rfl, hJx⟩ | ⟨ch, rfl, hJp⟩)
        · have HJ3 := Hd.mk hJ3
          clear hJ3 HRd hy
          gi_wp2
          go_roundw
          case rel => exact ⟨i + 1, at_ + m, k, by go_num, by omega, by omega, by omega, HD, HJ3⟩
          case measure => simp [intOf]; omega
        · gi_wp2
          refine bodyPost_ret (results_none rfl _ _ _) rfl ?_
          exact .inl ⟨_, rfl, .inr hJx⟩
        · exact ⟨rfl, .inr ⟨ch, rfl, hJp⟩⟩
      · have hen : (e != 0) = true := by simpa using he
        have hstop := al_stop xs k at_ (by rw [hr]; exact he)
        have hiL : i = L.length := by
          have := HL.out
          rw [hstop] at this
          have h1 := List.drop_eq_nil_iff.1 this
          omega
        subst hiL
        clear hstop he hr
        gi_wp2
        refine ⟨fun _ h => (by cases h), ?_⟩
        gi_wp2
        refine bodyPost_ret (results_none rfl _ _ _) rfl ?_
        exact .inl ⟨_, rfl, .inl HJ1.out⟩
    · obtain rfl : at_ = n := by omega
      have hstop := al_stop xs k at_ (by rw [List.drop_eq_nil_of_le (by rw [HXL.out]; omega), rdN_nil]; decide)
      have hiL : i = L.length := by
        have := HL.out
        rw [hstop] at this
        have h1 := List.drop_eq_nil_iff.1 this
        omega
      subst hiL
      clear hstop
      gi_wp2
      go_end0
      exact .inl ⟨_, rfl, .inl HJ.out⟩
end Go.Proofs.Ytpjfepeedfbpfaa
