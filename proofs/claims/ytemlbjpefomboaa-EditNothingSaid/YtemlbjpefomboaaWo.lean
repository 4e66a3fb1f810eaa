/- edit: edits that are answered, told. -/
import Derived.Test.YtemlbjpefomboaaRc
namespace Go.Proofs.Ytemlbjpefomboaa
open Go.RowKit Go.Shelf Go.Proofs.YtemlbjpefomboaaW.PrintWords Go.Proofs.YtemlbjpefomboaaW.PrintLast Go.Proofs.YtemlbjpefomboaaW.PrintMore Go.Proofs.Ytemlbjpefomboaa.Pr
set_option linter.unusedVariables false
set_option linter.unusedSimpArgs false
def NormR (w : World) (r : List S80 × List Int × List Int × Int) (e : Ending) (w' : World) : Prop :=
  ∃ v0 v1 v2, e = .returned (.tuple #[.agg #[v0, v1, v2], .int .i64 r.2.2.2]) ∧ Kd.R k80 80 w' w.heap.size (fun _ => True) v0 r.1 ∧ Kd.R (Kd.int .u8) 5 w' w.heap.size (fun k_ => some k_ ≠ (v2 : Value).ownBlock) v1 r.2.1 ∧
    Kd.R (Kd.int .u8) 5 w' w.heap.size (fun k_ => some k_ ≠ (v1 : Value).ownBlock) v2 r.2.2.1 ∧ Below w.heap.size w w'
theorem R_ok {w : World} {base : Nat} {ok ok' : Nat → Prop} {v : Value} {l : List S80} (h : Kd.R k80 80 w base ok v l) (hok : ∀ k, v.ownBlock = some k → ok k → ok' k) : Kd.R k80 80 w base ok' v l :=
  Kd.R_flat (fun hm => by rw [k80_openM hm]; exact k80_mkM _ _ _ _) h hok
theorem R_ok8 {w : World} {base : Nat} {ok ok' : Nat → Prop} {v : Value} {l : List Int} (h : Kd.R (Kd.int .u8) 5 w base ok v l) (hok : ∀ k, v.ownBlock = some k → ok k → ok' k) : Kd.R (Kd.int .u8) 5 w base ok' v l :=
  Kd.R_of_own (Kd.own_of_R h) (fun k hk => hok k hk (h.1 k hk))
/-- An edit whose lists are told: each in blocks that p lets be. -/
structure Ed3 (w : World) (base : Nat) (p : Nat → Prop) (v0 v1 v2 : Value) (l0 : List S80) (l1 l2 : List Int) : Prop where
  r0 : Kd.R k80 80 w base p v0 l0
  r1 : Kd.R (Kd.int .u8) 5 w base p v1 l1
  r2 : Kd.R (Kd.int .u8) 5 w base p v2 l2
  ne : ∀ k, v1.ownBlock = some k → some k ≠ v2.ownBlock
theorem Ed3.below {w w' : World} {base : Nat} {p : Nat → Prop} {v0 v1 v2 : Value} {l0 : List S80} {l1 l2 : List Int} (h : Ed3 w base p v0 v1 v2 l0 l1 l2) (hb : Below w.heap.size w w') : Ed3 w' base p v0 v1 v2 l0 l1 l2 :=
  ⟨Kd.R_below h.r0 hb, Kd.R_below h.r1 hb, Kd.R_below h.r2 hb, h.ne⟩
theorem Ed3.mono {w : World} {base : Nat} {p q : Nat → Prop} {v0 v1 v2 : Value} {l0 : List S80} {l1 l2 : List Int} (h : Ed3 w base p v0 v1 v2 l0 l1 l2) (hq : ∀ k, p k → base ≤ k → k < w.heap.size → q k) : Ed3 w base q v0 v1 v2 l0 l1 l2 :=
  ⟨Kd.R_mono (Kd.R_bound h.r0) (fun k hk => hq k hk.1 hk.2.1 hk.2.2.1), Kd.R_mono (Kd.R_bound h.r1) (fun k hk => hq k hk.1 hk.2.1 hk.2.2.1), Kd.R_mono (Kd.R_bound h.r2) (fun k hk => hq k hk.1 hk.2.1 hk.2.2.1), h.ne⟩
theorem Ed3.lower {w : World} {base b' : Nat} {p : Nat → Prop} {v0 v1 v2 : Value} {l0 : List S80} {l1 l2 : List Int} (h : Ed3 w base p v0 v1 v2 l0 l1 l2) (hb : b' ≤ base) : Ed3 w b' p v0 v1 v2 l0 l1 l2 :=
  ⟨Kd.R_lower h.r0 hb, Kd.R_lower h.r1 hb, Kd.R_lower h.r2 hb, h.ne⟩
theorem Ed3.step {w w' : World} {base : Nat} {p : Nat → Prop} {v0 v1 v2 : Value} {l0 : List S80} {l1 l2 : List Int} (h : Ed3 w base p v0 v1 v2 l0 l1 l2) (hm : ∀ k, p k → k < w.heap.size → w'.heap[k]? = w.heap[k]?) : Ed3 w' base p v0 v1 v2 l0 l1 l2 :=
  ⟨Kd.R_step h.r0 hm, Kd.R_step h.r1 hm, Kd.R_step h.r2 hm, h.ne⟩
theorem Ed3.edc {w : World} {base : Nat} {p : Nat → Prop} {B0 B1 B2 : Option Addr} {e0 e1 e2 : Nat} {l0 : List S80} {l1 l2 : List Int} (h : Ed3 w base p (.slice B0 l0.length e0) (.slice B1 l1.length e1) (.slice B2 l2.length e2) l0 l1 l2) : EdC w B0 e0 l0 B1 e1 l1 B2 e2 l2 :=
  ⟨(Kd.R_reads' h.r0).2.2, (Kd.R_reads' h.r1).2.2, (Kd.R_reads' h.r2).2.2, (Kd.R_reads' h.r0).2.1, (Kd.R_reads' h.r1).2.1, (Kd.R_reads' h.r2).2.1⟩
theorem Ed3.forms {w : World} {base : Nat} {p : Nat → Prop} {v0 v1 v2 : Value} {l0 : List S80} {l1 l2 : List Int} (h : Ed3 w base p v0 v1 v2 l0 l1 l2) : ∃ B0 e0 B1 e1 B2 e2, v0 = .slice B0 l0.length e0 ∧ v1 = .slice B1 l1.length e1 ∧ v2 = .slice B2 l2.length e2 := by
  obtain ⟨B0, e0, h0⟩ := Kd.R_slice h.r0
  obtain ⟨B1, e1, h1⟩ := Kd.R_slice h.r1
  obtain ⟨B2, e2, h2⟩ := Kd.R_slice h.r2
  exact ⟨B0, e0, B1, e1, B2, e2, h0, h1, h2⟩
theorem NormR.ed3 {w w' : World} {r : List S80 × List Int × List Int × Int} {e : Ending} (h : NormR w r e w') : ∃ B0 e0 B1 e1 B2 e2, e = .returned (.tuple #[.agg #[.slice B0 r.1.length e0, .slice B1 r.2.1.length e1, .slice B2 r.2.2.1.length e2], .int .i64 r.2.2.2]) ∧
    Ed3 w' w.heap.size (fun _ => True) (.slice B0 r.1.length e0) (.slice B1 r.2.1.length e1) (.slice B2 r.2.2.1.length e2) r.1 r.2.1 r.2.2.1 ∧ Below w.heap.size w w' := by
  obtain ⟨v0, v1, v2, he, h0, h1, h2, hb⟩ := h
  have hE : Ed3 w' w.heap.size (fun _ => True) v0 v1 v2 r.1 r.2.1 r.2.2.1 := ⟨h0, R_ok8 h1 (fun _ _ _ => trivial), R_ok8 h2 (fun _ _ _ => trivial), fun k hk => h1.1 k hk⟩
  obtain ⟨B0, e0, B1, e1, B2, e2, rfl, rfl, rfl⟩ := hE.forms
  exact ⟨B0, e0, B1, e1, B2, e2, he, hE, hb⟩
end Go.Proofs.Ytemlbjpefomboaa
