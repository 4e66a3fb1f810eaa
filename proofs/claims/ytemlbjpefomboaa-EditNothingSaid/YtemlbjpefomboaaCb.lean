/- edit: contracts that read well: Normal, Apply, Join, same, at any number of steps. -/
import Derived.Test.YtemlbjpefomboaaMi
import Derived.Test.YtemlbjpefomboaaAk
import Derived.Test.YtemlbjpefomboaaOe
import Derived.Test.YtemlbjpefomboaaEj
import Derived.Test.YtemlbjpefomboaaFi
namespace Go.Proofs.Ytemlbjpefomboaa
open Go.RowKit Go.ChangeShapes Go.WideShapes Go.Proofs.YtemlbjpefomboaaW.PrintWords Go.Proofs.Ytemlbjpefomboaa.Pr
set_option linter.unusedVariables false
set_option maxRecDepth 100000 in
theorem open_bytesW {H : Type} {enc : TypeId × Value → H} {W : World} {base : Nat} {v : Value} {d : DataW H} {p : List MemPlace} (hv : Value.okWide Try.prog W .any base 25 v)
    (h : DataW.Trod enc Try.prog W 0 (fun _ => true) true 25 v d p) (_ : ∀ n ∈ d.weights Try.prog 25, n ≤ reachBytes) :
    ∃ (Ao : Option Addr) (co : Nat) (old : List Int), v = .slice Ao old.length co ∧ Bys W Ao co old := by
  obtain ⟨a, len, cap, rfl⟩ := okWide_slice Try.underlying25 hv
  obtain ⟨fuel, hf⟩ := h
  obtain ⟨A, c, l, e, hB, hl⟩ := bytes_of_trod (v := .slice a len cap) hf
  exact ⟨A, c, l, e, hB⟩
end Go.Proofs.Ytemlbjpefomboaa
namespace Go.Proofs.Ytemlbjpefomboaa
open Go.RowKit Go.Shelf Go.Proofs.YtemlbjpefomboaaW.PrintWords Go.Proofs.YtemlbjpefomboaaW.PrintLast Go.Proofs.YtemlbjpefomboaaW.PrintMore Go.Proofs.Ytemlbjpefomboaa.Pr
set_option linter.unusedVariables false
set_option linter.unusedSimpArgs false
theorem same_cm {A : Option Addr} {c : Nat} {B : Option Addr} {e : Nat} {l : List Int} {w : World} (h : Kd.C (Kd.int .u8) w A l.length l) (hc : l.length ≤ c) (k : Kd.C (Kd.int .u8) w B l.length l) (hk : l.length ≤ e) :
    Calls Try.prog 26 #[.slice A l.length c, .slice B l.length e] w fun e w' => e = .returned (.bool true) ∧ Below w.heap.size w w' :=
  (sapperlaw16_same.calls A c l B e l true w h hc k hk (by simp [sapperlaw16_same.f])).mono fun e w' h => ⟨h.1, h.2.below⟩
/-- Apply, its answer read. -/
theorem apply_m {Ao : Option Addr} {co : Nat} {old : List Int} {A0 : Option Addr} {c0 : Nat} {st : List S80} {A1 : Option Addr} {c1 : Nat} {d : List Int} {A2 : Option Addr} {c2 : Nat} {x : List Int} {w : World} {r : List Int} {er : Int}
    (hO : Kd.C (Kd.int .u8) w Ao old.length old) (hoc : old.length ≤ co) (hE : EdC w A0 c0 st A1 c1 d A2 c2 x) (hm : Mid (og st d x 0)) (hr : applied old st d x = r) (he : appliedE old st d x = er) :
    Calls Try.prog 24 #[.slice Ao old.length co, .agg #[.slice A0 st.length c0, .slice A1 d.length c1, .slice A2 x.length c2]] w fun e w' => ∃ B b, e = .returned (.tuple #[.slice B r.length b, .int .i64 er]) ∧ Kd.C (Kd.int .u8) w' B r.length r ∧ r.length ≤ b ∧ Below w.heap.size w w' := by
  have h := apply_c Ao co old A0 c0 st A1 c1 d A2 c2 x w hO hoc hE (applied_mid hm)
  unfold EdV at h
  rw [hr, he] at h
  refine h.mono ?_
  rintro e w' ⟨v, rfl, hv, hb⟩
  obtain ⟨B, b, rfl⟩ := own_slice hv
  exact ⟨B, b, rfl, own_C8 hv, own_le hv, hb⟩
theorem normal_m {A0 : Option Addr} {c0 : Nat} {st : List S80} {A1 : Option Addr} {c1 : Nat} {d : List Int} {A2 : Option Addr} {c2 : Nat} {x : List Int} {w : World} {S : List S80} {D X : List Int} {er : Int}
    (hE : EdC w A0 c0 st A1 c1 d A2 c2 x) (hr : normalE st d x = (S, D, X, er)) :
    Calls Try.prog 40 #[.agg #[.slice A0 st.length c0, .slice A1 d.length c1, .slice A2 x.length c2]] w fun e w' => ∃ B0 b0 B1 b1 B2 b2, e = .returned (.tuple #[.agg #[.slice B0 S.length b0, .slice B1 D.length b1, .slice B2 X.length b2], .int .i64 er]) ∧ EdC w' B0 b0 S B1 b1 D B2 b2 X ∧ Below w.heap.size w w' := by
  have h := normal_c hE
  unfold EdV at h
  rw [hr] at h
  refine h.mono ?_
  intro e w' h
  obtain ⟨B0, b0, B1, b1, B2, b2, he, h3, hb⟩ := h.ed3
  exact ⟨B0, b0, B1, b1, B2, b2, he, h3.edc, hb⟩
theorem normalE_bad {st : List S80} {d x : List Int} {S : List S80} {D X : List Int} {er : Int} (h : normalE st d x = (S, D, X, er)) (he : er ≠ 0) : S = [] := by
  unfold normalE at h
  by_cases h0 : (ited st d x).2 ≠ 0
  · rw [if_pos h0] at h
    exact (congrArg Prod.fst h).symm
  · rw [if_neg h0] at h
    have := normOf_bad (L := og st d x 0) (by rw [h]; exact he)
    rw [h] at this
    exact congrArg Prod.fst this
theorem normalE_ok {st : List S80} {d x : List Int} {S : List S80} {D X : List Int} (h : normalE st d x = (S, D, X, 0)) : (ited st d x).2 = 0 ∧ normOf (og st d x 0) = (S, D, X, 0) := by
  unfold normalE at h
  by_cases h0 : (ited st d x).2 ≠ 0
  · rw [if_pos h0] at h
    exact absurd (congrArg (fun q => q.2.2.2) h) h0
  · rw [if_neg h0] at h
    exact ⟨by simpa using h0, h⟩
theorem normalE_mk {st : List S80} {d x : List Int} {S : List S80} {D X : List Int} (h0 : (ited st d x).2 = 0) (h : normOf (og st d x 0) = (S, D, X, 0)) : normalE st d x = (S, D, X, 0) := by
  unfold normalE
  rw [if_neg (fun h' => h' h0)]
  exact h
theorem bounds_m {A0 : Option Addr} {c0 : Nat} {st : List S80} {A1 : Option Addr} {c1 : Nat} {d : List Int} {A2 : Option Addr} {c2 : Nat} {x : List Int} {w : World} {n : Nat} (hE : EdC w A0 c0 st A1 c1 d A2 c2 x) (hst : st.all may = true) (hn : n = bnd st 0 0 true false) (hl : n ≤ 16777217) :
    Calls Try.prog 43 #[.agg #[.slice A0 st.length c0, .slice A1 d.length c1, .slice A2 x.length c2]] w fun e w' => e = .returned (.int .i64 (n : Int)) ∧ Below w.heap.size w w' := by
  obtain ⟨k, hk⟩ := bounds_l0 st hst hE.s.2.1 st.length 0 0 0 0 true false (by omega) (by rw [List.drop_zero]; omega)
  rw [w64 0 (by omega), List.drop_zero, Nat.zero_add, ← hn] at hk
  exact sapperlaw16_bounds.calls k A0 c0 st A1 c1 d A2 c2 x _ w hE.s hE.hs hE.di hE.hd hE.ex hE.hx hk
end Go.Proofs.Ytemlbjpefomboaa
