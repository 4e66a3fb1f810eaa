/- vcd: codes by contract. -/
import Derived.Test.YtmfnjmecnhagmaaCm
namespace Go.Proofs.Ytmfnjmecnhagmaa
open Go.RowKit Go.ChangeShapes Go.WideShapes Go.Shelf Go.Maps Go.Proofs.YtmfnjmecnhagmaaW.PrintWords Go.Proofs.YtmfnjmecnhagmaaW.PrintLast Go.Proofs.YtmfnjmecnhagmaaW.PrintMore Go.Proofs.Ytmfnjmecnhagmaa.Pr
set_option linter.unusedVariables false
set_option linter.unusedSimpArgs false
theorem wpList_index {P : Program} {ops : Array Oper} {rest : List Oper} {o : Oper} {a : Act} {w : World} {Q : Exit → Act → World → Prop} (hg : o.guard = none) (ty : TypeId) (x ix : Operand) (ho : o.op = .index ty x ix) (u v r : Value) (hx : a.eval x = u) (hv : a.eval ix = v)
    (hrun : (Instr.index ty u v).run P w = .ok r w) (h : wpList P ops Q rest (a.put o.dst r) w) : wpList P ops Q (o :: rest) a w :=
  wpList_plain hg fun K hK => by
    unfold Oper.wp
    simp [execOp, ho, hx, hv, hrun, Result.andThen]
    exact hK _ _ h
set_option maxRecDepth 100000 in
set_option maxHeartbeats 16000000 in
theorem codes_c (w : World) : Calls Try.prog 45 #[] w fun e w' => e = .returned (.map (some w.heap.size)) ∧ MapT w' w.heap.size 256 (codesF 256) ∧ Below w.heap.size w w' := by
  have hmm := @run_makeMap Try.prog
  have HB0 := Hd.mk ((Below.refl w.heap.size w).alloc (Nat.le_refl _) (.map #[] 0))
  have HM0 := Hd.mk (MapT.start w)
  go_enter Try.func45, Try.ntmps45
  go_wp2_with fail
  refine (table_c _).mono ?_
  rintro e w1 ⟨c, rfl, hc, hb1⟩
  have HC := Hd.mk hc
  have HB1 := Hd.mk (below_step HB0.out hb1)
  have HM1 := Hd.mk (HM0.out.below hb1)
  clear hc hb1 HB0 HM0 hmm
  go_wp2
  go_loopg [6] 256 (fun k v6 W => ∃ i : Nat, v6 = .int .i64 i ∧ i + k = 256 ∧ Hd (MapT W w.heap.size i (codesF i)) ∧ Hd (Below w.heap.size w W))
  case atStart => exact ⟨0, rfl, by omega, ⟨HM1.out⟩, HB1⟩
  case round =>
    clear HM1 HB1
    obtain ⟨i, rfl, hk, HM, HB⟩ := hrel
    rcases gk with _ | q
    rotate_left
    · have hlt : decide ((i : Int) < 256) = true := decide_eq_true (by omega)
      have hi : i < 256 := by omega
      have hrun := index_tab HC.out hi wr
      have hwf := wf_tab i hi
      obtain ⟨p, hp⟩ : ∃ p, tabAt i = p := ⟨_, rfl⟩
      have HP := Hd.mk hp
      rw [hp] at hrun hwf
      obtain ⟨⟨k1, s1, m1⟩, k2, s2, m2⟩ := p
      have HWF := Hd.mk hwf
      have hrun : (Instr.index 26 (.agg c) (.int .i64 (i : Int))).run Try.prog wr = .ok (.agg #[.int .i64 k1, .int .i64 s1, .int .i64 m1, .int .i64 k2, .int .i64 s2, .int .i64 m2]) wr := hrun
      have HM2 := Hd.mk (HM.out.below ((Below.refl wr.heap.size wr).alloc (Nat.le_refl _) (.cells #[.int .i64 k1, .int .i64 s1, .int .i64 m1, .int .i64 k2, .int .i64 s2, .int .i64 m2] 25)))
      have HB2 := Hd.mk (HB.out.alloc HB.out.size (.cells #[.int .i64 k1, .int .i64 s1, .int .i64 m1, .int .i64 k2, .int .i64 s2, .int .i64 m2] 25))
      clear hp hwf HM HB
      have hwi : wfI (i : Int) := WalkArith.wf_i64 (by omega)
      have HWI := Hd.mk hwi
      clear hwi
      go_wp2_with (first | (refine wpList_index rfl 26 _ _ rfl _ _ _ rfl rfl hrun ?_) | (refine wpList_store_map rfl _ _ _ rfl w.heap.size i (codesF i) rfl HM2.out (by omega) ((k1, s1, m1), k2, s2, m2) HWF.out rfl (i : Int) HWI.out rfl ?_; intro w2 hm2 hg2) | fail)
      rw [← HP.out, ← codesF_succ] at hm2
      have HM3 := Hd.mk hm2
      have HB3 := Hd.mk (HB2.out.grown hg2 HB2.out.size (fun k hk => by cases hk; exact Nat.le_refl _))
      clear hm2 hg2 HM2 HB2
      go_roundg q
      case measure => omega
      case rel => exact ⟨i + 1, by go_num, by omega, HM3, HB3⟩
    have hlt : decide ((i : Int) < 256) = false := decide_eq_false (by omega)
    have hi : i = 256 := by omega
    rw [hi] at HM
    clear hi
    go_wp2
    go_ret
    exact ⟨rfl, HM.out, HB.out⟩
end Go.Proofs.Ytmfnjmecnhagmaa
