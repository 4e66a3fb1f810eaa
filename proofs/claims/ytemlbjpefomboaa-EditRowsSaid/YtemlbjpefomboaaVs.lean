/- edit: slices.Values over a row of origins, an iterator by contract. -/
import Derived.Test.YtemlbjpefomboaaIk
namespace Go.Proofs.Ytemlbjpefomboaa
open Go.RowKit Go.Shelf Go.Proofs.YtemlbjpefomboaaW.PrintWords Go.Proofs.YtemlbjpefomboaaW.PrintLast Go.Proofs.YtemlbjpefomboaaW.PrintMore Go.Proofs.Ytemlbjpefomboaa.Pr
set_option linter.unusedVariables false
set_option linter.unusedSimpArgs false
attribute [local go_sem] Oper.semAt_some
/-- A box that holds a row of origins. -/
def ValB (B : Nat) (A : Option Addr) (c : Nat) (L : List S94) (W : World) : Prop :=
  W.heap[B]? = some (.cells #[.slice A L.length c] 100 (0, 0)) ∧ ∃ base, W.ownsRow base 89 3 (.slice A L.length c) L.length (cells94 L)
theorem ValB.below {B : Nat} {A : Option Addr} {c : Nat} {L : List S94} {W W' : World} (h : ValB B A c L W) (hb : Below W.heap.size W W') : ValB B A c L W' :=
  ⟨blk_below h.1 hb, h.2.elim fun b hb' => ⟨b, pw_own_below hb' hb⟩⟩
theorem values_call {A : Option Addr} {c : Nat} {L : List S94} {w : World} :
    CallsIn (FN EX) 0 Try.prog 64 #[.slice A L.length c] w fun e w' => e = .returned (.func (.func 71) #[] #[.pointer (some ⟨w.heap.size, 0, none⟩)]) ∧ w' = w.alloc (.cells #[.slice A L.length c] 100) := by
  have hmf : ∀ (fn : Fn) (first cap : Array Value) (w : World), (Instr.makeFunc fn first cap).run Try.prog w = .ok (.func fn first cap) w := fun _ _ _ _ => rfl
  refine callsIn_of_wp Try.func64 rfl ⟨_, Try.func64⟩ ?_ rfl
  simp only [Try.ntmps64, List.size_toArray, List.length_cons, List.length_nil, Nat.reduceAdd, Nat.reduceSub, Array.replicate_succ, Array.replicate_zero, List.push_toArray, List.append_toArray, List.nil_append, List.cons_append]
  gi_wp2
  go_ret
  exact ⟨rfl, rfl⟩
set_option maxRecDepth 100000 in
set_option maxHeartbeats 8000000 in
theorem values_iter {B : Nat} {A : Option Addr} {c : Nat} {L : List S94} (hl : L.length ≤ 33554432) : IterK (ValB B A c L) 71 #[.pointer (some ⟨B, 0, none⟩)] L := by
  intro l n1 J Jx Jp hR hG hst _ _ hY W hn h0
  have HR := Hd.mk hR
  have HG := Hd.mk hG
  have HST := Hd.mk hst
  have HY := Hd.mk hY
  have HJ0 := Hd.mk h0
  have HL := Hd.mk hl
  have hr := (HR.out _ _ _ h0).1
  have cb0 := blk_cell hr.1 0
  simp at cb0
  clear hY hR hst h0 hG hr hl
  refine callsIn_of_wp Try.func71 rfl ⟨_, Try.func71⟩ ?_ rfl
  simp only [Try.ntmps71, List.size_toArray, List.length_cons, List.length_nil, Nat.reduceAdd, Nat.reduceSub, Array.replicate_succ, Array.replicate_zero, List.push_toArray, List.append_toArray, List.nil_append, List.cons_append]
  gi_wp2
  gi_loopw [7] (fun y7 wr => ∃ (i : Nat) (X : List (Nat × Obj)), y7 = .int .i64 i ∧ i ≤ L.length ∧ Hd (J X i wr)) (fun y _ => L.length - (intOf y).toNat)
  case atStart => exact ⟨0, [], rfl, by omega, HJ0⟩
  case round =>
    obtain ⟨i, X, rfl, hi, HJ⟩ := hrel
    by_cases hlt : i < L.length
    · obtain ⟨hb, base, hrow⟩ := (HR.out _ _ _ HJ.out).1
      obtain ⟨ad, c', e, c90, c91, c92⟩ := at_O hrow hlt
      cases e
      obtain ⟨⟨fr, at_, by_⟩, hg⟩ : ∃ r, L.getD i z94 = r := ⟨_, rfl⟩
      rw [hg] at c90 c91 c92
      simp only at c90 c91 c92
      have HJ' := Hd.mk (HG.out X i wr (.cells #[.bool (!fr), .int .i64 at_, .int .u8 by_] 89) rfl HJ.out)
      obtain ⟨fn, tmps, assign, body, hy, hRd⟩ := HY.out _ i _ hlt HJ'.out
      rw [hg] at hy
      dsimp only [enc89] at hy
      have HRd := Hd.mk hRd
      have hll := HL.out
      clear hRd hg hb hrow cb0
      gi_wp2
      refine HRd.out.mono ?_
      rintro e W3 (⟨rfl, hJ3⟩ | ⟨rfl, hJx⟩ | ⟨ch, rfl, hJp⟩)
      · have HJ3 := Hd.mk hJ3
        clear hJ3 HRd hy
        gi_wp2
        exact ⟨⟨i + 1, _, by go_num, by omega, HJ3⟩, by simp [intOf]; omega⟩
      · gi_wp2
        refine bodyPost_ret (results_none rfl _ _ _) rfl ?_
        exact .inl ⟨_, rfl, .inr hJx⟩
      · exact ⟨rfl, .inr ⟨ch, rfl, hJp⟩⟩
    · obtain rfl : i = L.length := by omega
      gi_wp2
      go_end0
      exact .inl ⟨_, rfl, .inl ⟨X, HJ.out⟩⟩
end Go.Proofs.Ytemlbjpefomboaa
