/- edit: slices.Clone of steps, by contract in the print's form. -/
import Derived.Test.YtemlbjpefomboaaE0
import Derived.Lib.SliceRun
namespace Go.Proofs.Ytemlbjpefomboaa.Pr
open Go.RowKit Go.Proofs.YtemlbjpefomboaaW.PrintWords Go.Proofs.YtemlbjpefomboaaW.PrintLast Go.Proofs.YtemlbjpefomboaaW.PrintMore
set_option linter.unusedVariables false
set_option linter.unusedSimpArgs false
attribute [local go_sem] Go.Lib.run_eql_slice_nil
def api_Step.f (l0 : List (S80)) : Option (List (S80)) := if l0.length < 5864062014805 then some l0 else none
set_option maxHeartbeats 8000000 in
set_option maxRecDepth 100000 in
theorem api_Step.calls (A0 : Option Addr) (c0 : Nat) (l0 : List (S80)) (r : List (S80)) (w : World) (hr0 : Kd.C k80 w A0 l0.length l0) (hc0 : l0.length ≤ c0) (h : api_Step.f l0 = some r) :
    Calls Try.prog 60 #[.slice A0 l0.length c0] w fun e w' => ∃ v0_ : Value, e = .returned (v0_) ∧ Kd.R k80 80 w' w.heap.size (fun _ => True) v0_ r ∧ Below w.heap.size w w' := by
  have hL : l0.length < 5864062014805 ∧ l0 = r := by
    unfold api_Step.f at h
    split at h
    · rename_i h1
      exact ⟨h1, Option.some.inj h⟩
    · cases h
  obtain ⟨hL, rfl⟩ := hL
  have hu26 := Try.underlying26
  cases A0 with
  | none =>
    have h0 : l0 = [] := by
      cases l0 with
      | nil => rfl
      | cons a l => obtain ⟨ad, h1, _⟩ := hr0.2.2 (by simp); cases h1
    subst h0
    go_enter Try.func60, Try.ntmps60
    go_wp2
    exact ⟨rfl, _, (results_tmp (t := 2) rfl _ _ _), _, rfl, Kd.R_nil _ _ _ _ _, Below.refl _ _⟩
  | some ad =>
    have HR2 := Aside0.mk hr0
    have HB := Aside0.mk (Below.refl w.heap.size w)
    clear hr0
    go_enter Try.func60, Try.ntmps60
    go_wp2_with (first | ((with_reducible refine gate_dst (N := 5) rfl ?_); refine Kd.R_lit k80 w.heap.size 80 rfl (N := 5) ?hd (xs := ([] : List (S80))) (inner := []) (ok := fun _ => True) (okp := fun _ => True) ?hr ?hp (fun _ hk => hk) trivial HB.out (Nat.le_refl _) (by simp) ?_; (case hd => rfl); (case hr => first | (go_simp; done) | (go_simp; rfl)); (case hp => exact (Reps.none _ _)); intro v178 w32 ho33 hb hg_ hnew_; have HO := Aside0.mk ho33; have HB2 := Aside0.mk hb; clear ho33 hb hg_ hnew_) | ((with_reducible refine gate_dst (N := 7) rfl ?_); refine Kd.R_append_rows k80 (w0 := w) w.heap.size rfl (.tmp 5) (.tmp 6) 26 80 (.agg #[(.int .i64 0), (.int .i64 0), (.int .i64 0)]) 24 rfl Try.underlying26 info80 rfl (by decide) (by omega) v178 [] l0 _ _ _ (fun _ => True) (fun _ => False) rfl rfl HO.out (Kd.C_below HR2.out HB2.out) (fun _ _ h => h) (fun _ h => h.elim) (fun _ _ => trivial) HB2.out (below_size HB2.out) (by simp only [List.length_nil]; omega) ?_; intro v181 w34 ho hb hg hat))
    exact ⟨rfl, v181, (results_tmp (t := 2) rfl _ _ _), v181, rfl, ho, hb⟩
end Go.Proofs.Ytemlbjpefomboaa.Pr
