/- edit: own, where both edits are the document's. -/
import Derived.Test.YtemlbjpefomboaaRc
import Derived.Test.YtemlbjpefomboaaE5
import Derived.Test.YtemlbjpefomboaaKe
namespace Go.Proofs.Ytemlbjpefomboaa
open Go.RowKit Go.Shelf Go.Proofs.YtemlbjpefomboaaW.PrintWords Go.Proofs.YtemlbjpefomboaaW.PrintLast Go.Proofs.YtemlbjpefomboaaW.PrintMore Go.Proofs.Ytemlbjpefomboaa.Pr
set_option linter.unusedVariables false
set_option linter.unusedSimpArgs false
def NormR (w : World) (r : List S80 × List Int × List Int × Int) (e : Ending) (w' : World) : Prop :=
  ∃ v0 v1 v2, e = .returned (.tuple #[.agg #[v0, v1, v2], .int .i64 r.2.2.2]) ∧ Kd.R k80 80 w' w.heap.size (fun _ => True) v0 r.1 ∧ Kd.R (Kd.int .u8) 5 w' w.heap.size (fun k_ => some k_ ≠ (v2 : Value).ownBlock) v1 r.2.1 ∧
    Kd.R (Kd.int .u8) 5 w' w.heap.size (fun k_ => some k_ ≠ (v1 : Value).ownBlock) v2 r.2.2.1 ∧ Below w.heap.size w w'
theorem spoil_l3 : ∀ (j i : Nat) (xs : List S80) (ys zs : List Int), i + j = 40 → xs.length + j ≤ 5864062014000 → ys.length + j ≤ 140737488355000 → zs.length + j ≤ 140737488355000 →
    sapperlaw16_spoil.l3 (j + 1) i xs ys zs = some ((xs.length + j : Nat) : Int)
  | 0, i, xs, ys, zs, hi, h1, h2, h3 => by
    obtain rfl : i = 40 := by omega
    rw [sapperlaw16_spoil.l3, if_neg (by omega)]
    rfl
  | j + 1, i, xs, ys, zs, hi, h1, h2, h3 => by
    rw [sapperlaw16_spoil.l3, if_pos (by omega), if_pos (by omega), if_pos (by omega), if_pos (by omega), w64 ((i : Int) + 1) (by omega), show ((i : Int) + 1) = ((i + 1 : Nat) : Int) by omega, spoil_l3 j (i + 1) _ _ _ (by omega) (by simp; omega) (by simp; omega) (by simp; omega)]
    simp
    omega
theorem spoil_l2 : ∀ (j i : Nat) (xs : List S80) (ys zs : List Int), i + j = zs.length → xs.length ≤ 5864062013000 → ys.length ≤ 140737488354000 → zs.length ≤ 140737488354000 →
    sapperlaw16_spoil.l2 (41 + j + 1) i xs ys zs = some ((xs.length + 40 : Nat) : Int)
  | 0, i, xs, ys, zs, hi, h1, h2, h3 => by
    rw [sapperlaw16_spoil.l2, if_neg (by omega)]
    exact spoil_l3 40 0 xs ys zs (by omega) (by omega) (by omega) (by omega)
  | j + 1, i, xs, ys, zs, hi, h1, h2, h3 => by
    rw [show 41 + (j + 1) + 1 = (41 + j + 1) + 1 by omega, sapperlaw16_spoil.l2, if_pos (by omega), if_pos (by omega), w64 ((i : Int) + 1) (by omega), show ((i : Int) + 1) = ((i + 1 : Nat) : Int) by omega]
    exact spoil_l2 j (i + 1) _ _ _ (by simp; omega) h1 h2 (by simp; omega)
theorem spoil_l1 (K : Nat) : ∀ (j i : Nat) (xs : List S80) (ys zs : List Int), i + j = ys.length → xs.length ≤ 5864062013000 → ys.length ≤ 140737488354000 → zs.length ≤ 140737488354000 → K = zs.length →
    sapperlaw16_spoil.l1 (41 + K + 1 + j + 1) i xs ys zs = some ((xs.length + 40 : Nat) : Int)
  | 0, i, xs, ys, zs, hi, h1, h2, h3, hK => by
    rw [sapperlaw16_spoil.l1, if_neg (by omega)]
    subst hK
    exact spoil_l2 zs.length 0 xs ys zs (by omega) h1 h2 h3
  | j + 1, i, xs, ys, zs, hi, h1, h2, h3, hK => by
    rw [show 41 + K + 1 + (j + 1) + 1 = (41 + K + 1 + j + 1) + 1 by omega, sapperlaw16_spoil.l1, if_pos (by omega), if_pos (by omega), w64 ((i : Int) + 1) (by omega), show ((i : Int) + 1) = ((i + 1 : Nat) : Int) by omega]
    exact spoil_l1 K j (i + 1) _ _ _ (by simp; omega) h1 (by simp; omega) h3 hK
theorem spoil_l0 (K M : Nat) : ∀ (j i : Nat) (xs : List S80) (ys zs : List Int), i + j = xs.length → xs.length ≤ 5864062013000 → ys.length ≤ 140737488354000 → zs.length ≤ 140737488354000 → K = zs.length → M = ys.length →
    sapperlaw16_spoil.l0 (41 + K + 1 + M + 1 + j + 1) i xs ys zs = some ((xs.length + 40 : Nat) : Int)
  | 0, i, xs, ys, zs, hi, h1, h2, h3, hK, hM => by
    rw [sapperlaw16_spoil.l0, if_neg (by omega)]
    subst hM
    exact spoil_l1 K ys.length 0 xs ys zs (by omega) h1 h2 h3 hK
  | j + 1, i, xs, ys, zs, hi, h1, h2, h3, hK, hM => by
    rw [show 41 + K + 1 + M + 1 + (j + 1) + 1 = (41 + K + 1 + M + 1 + j + 1) + 1 by omega, sapperlaw16_spoil.l0, if_pos (by omega), if_pos (by omega), w64 ((i : Int) + 1) (by omega), show ((i : Int) + 1) = ((i + 1 : Nat) : Int) by omega]
    have := spoil_l0 K M j (i + 1) (xs.set (i : Int).toNat ⟨81, 0, 0⟩) ys zs (by simp; omega) (by simp; omega) h2 h3 hK hM
    rw [List.length_set] at this
    exact this
theorem own_f (l0 : List S80) (l1 l2 : List Int) (h0 : l0.length ≤ 5864062013000) (h1 : l1.length ≤ 140737488354000) (h2 : l2.length ≤ 140737488354000) : ∃ k, sapperlaw16_own.f k l0 l1 l2 l0 l1 l2 l0 l1 l2 = some true := by
  obtain ⟨k0, hk0⟩ := alike_self l0 l1 l2 (by unfold fits; omega)
  have hs := spoil_l0 l2.length l1.length l0.length 0 l0 l1 l2 (by omega) h0 h1 h2 rfl rfl
  obtain ⟨K, hK⟩ : ∃ K, 41 + l2.length + 1 + l1.length + 1 + l0.length + 1 = K := ⟨_, rfl⟩
  rw [hK] at hs
  have hal : ∀ m, sapperref16_Alike.f (k0 + m) l0 l1 l2 l0 l1 l2 = some true := fun m => at_rounds (g := fun k => sapperref16_Alike.f k l0 l1 l2 l0 l1 l2) (fun k => sapperref16_Alike.mono _ _ _ _ _ _ k) (Nat.le_add_right _ _) hk0
  have hsp : sapperlaw16_spoil.f (k0 + K) l0 l1 l2 = some ((l0.length + 40 : Nat) : Int) := at_rounds (g := fun k => sapperlaw16_spoil.f k l0 l1 l2) (fun k => sapperlaw16_spoil.mono _ _ _ k) (Nat.le_add_left _ _) hs
  refine ⟨k0 + K + 1, ?_⟩
  unfold sapperlaw16_own.f
  rw [show k0 + K + 1 = k0 + (K + 1) by omega, hal, Option.bind_some, if_pos rfl, Option.bind_some, show k0 + (K + 1) = (k0 + K) + 1 by omega, sapperlaw16_own.j0, if_neg (by simp), hsp, Option.bind_some, if_pos (by omega), hal, Option.bind_some]
theorem R_ok {w : World} {base : Nat} {ok ok' : Nat → Prop} {v : Value} {l : List S80} (h : Kd.R k80 80 w base ok v l) (hok : ∀ k, v.ownBlock = some k → ok k → ok' k) : Kd.R k80 80 w base ok' v l :=
  Kd.R_flat (fun hm => by rw [k80_openM hm]; exact k80_mkM _ _ _ _) h hok
theorem R_ok8 {w : World} {base : Nat} {ok ok' : Nat → Prop} {v : Value} {l : List Int} (h : Kd.R (Kd.int .u8) 5 w base ok v l) (hok : ∀ k, v.ownBlock = some k → ok k → ok' k) : Kd.R (Kd.int .u8) 5 w base ok' v l :=
  Kd.R_of_own (Kd.own_of_R h) (fun k hk => hok k hk (h.1 k hk))
/-- An edit whose lists are told: each in blocks that p lets be. -/
structure Ed3 (w : World) (base : Nat) (p : Nat → Prop) (v0 v1 v2 : Value) (l0 : List S80) (l1 l2 : List Int) : Prop where
  r0 : Kd.R k80 80 w base p v0 l0
  r1 : Kd.R (Kd.int .u8) 5 w base p v1 l1
  r2 : Kd.R (Kd.int .u8) 5 w base p v2 l2
  ne : ∀ k, v1.ownBlock = some k → some k ≠ v2.ownBlock
theorem Ed3.below {w w' : World} {base : Nat} {p : Nat → Prop} {v0 v1 v2 : Value} {l0 : List S80} {l1 l2 : List Int} (h : Ed3 w base p v0 v1 v2 l0 l1 l2) (hb : Below w.heap.size w w') : Ed3 w' base p v0 v1 v2 l0 l1 l2 :=
  ⟨Kd.R_below h.r0 hb, Kd.R_below h.r1 hb, Kd.R_below h.r2 hb, h.ne⟩
theorem Ed3.mono {w : World} {base : Nat} {p q : Nat → Prop} {v0 v1 v2 : Value} {l0 : List S80} {l1 l2 : List Int} (h : Ed3 w base p v0 v1 v2 l0 l1 l2) (hq : ∀ k, p k → base ≤ k → k < w.heap.size → q k) : Ed3 w base q v0 v1 v2 l0 l1 l2 :=
  ⟨Kd.R_mono (Kd.R_bound h.r0) (fun k hk => hq k hk.1 hk.2.1 hk.2.2.1), Kd.R_mono (Kd.R_bound h.r1) (fun k hk => hq k hk.1 hk.2.1 hk.2.2.1), Kd.R_mono (Kd.R_bound h.r2) (fun k hk => hq k hk.1 hk.2.1 hk.2.2.1), h.ne⟩
theorem Ed3.lower {w : World} {base b' : Nat} {p : Nat → Prop} {v0 v1 v2 : Value} {l0 : List S80} {l1 l2 : List Int} (h : Ed3 w base p v0 v1 v2 l0 l1 l2) (hb : b' ≤ base) : Ed3 w b' p v0 v1 v2 l0 l1 l2 :=
  ⟨Kd.R_lower h.r0 hb, Kd.R_lower h.r1 hb, Kd.R_lower h.r2 hb, h.ne⟩
theorem Ed3.step {w w' : World} {base : Nat} {p : Nat → Prop} {v0 v1 v2 : Value} {l0 : List S80} {l1 l2 : List Int} (h : Ed3 w base p v0 v1 v2 l0 l1 l2) (hm : ∀ k, p k → k < w.heap.size → w'.heap[k]? = w.heap[k]?) : Ed3 w' base p v0 v1 v2 l0 l1 l2 :=
  ⟨Kd.R_step h.r0 hm, Kd.R_step h.r1 hm, Kd.R_step h.r2 hm, h.ne⟩
theorem Ed3.edc {w : World} {base : Nat} {p : Nat → Prop} {B0 B1 B2 : Option Addr} {e0 e1 e2 : Nat} {l0 : List S80} {l1 l2 : List Int} (h : Ed3 w base p (.slice B0 l0.length e0) (.slice B1 l1.length e1) (.slice B2 l2.length e2) l0 l1 l2) : EdC w B0 e0 l0 B1 e1 l1 B2 e2 l2 :=
  ⟨(Kd.R_reads' h.r0).2.2, (Kd.R_reads' h.r1).2.2, (Kd.R_reads' h.r2).2.2, (Kd.R_reads' h.r0).2.1, (Kd.R_reads' h.r1).2.1, (Kd.R_reads' h.r2).2.1⟩
theorem Ed3.forms {w : World} {base : Nat} {p : Nat → Prop} {v0 v1 v2 : Value} {l0 : List S80} {l1 l2 : List Int} (h : Ed3 w base p v0 v1 v2 l0 l1 l2) : ∃ B0 e0 B1 e1 B2 e2, v0 = .slice B0 l0.length e0 ∧ v1 = .slice B1 l1.length e1 ∧ v2 = .slice B2 l2.length e2 := by
  obtain ⟨B0, e0, h0⟩ := Kd.R_slice h.r0
  obtain ⟨B1, e1, h1⟩ := Kd.R_slice h.r1
  obtain ⟨B2, e2, h2⟩ := Kd.R_slice h.r2
  exact ⟨B0, e0, B1, e1, B2, e2, h0, h1, h2⟩
theorem NormR.ed3 {w w' : World} {r : List S80 × List Int × List Int × Int} {e : Ending} (h : NormR w r e w') : ∃ B0 e0 B1 e1 B2 e2, e = .returned (.tuple #[.agg #[.slice B0 r.1.length e0, .slice B1 r.2.1.length e1, .slice B2 r.2.2.1.length e2], .int .i64 r.2.2.2]) ∧
    Ed3 w' w.heap.size (fun _ => True) (.slice B0 r.1.length e0) (.slice B1 r.2.1.length e1) (.slice B2 r.2.2.1.length e2) r.1 r.2.1 r.2.2.1 ∧ Below w.heap.size w w' := by
  obtain ⟨v0, v1, v2, he, h0, h1, h2, hb⟩ := h
  have hE : Ed3 w' w.heap.size (fun _ => True) v0 v1 v2 r.1 r.2.1 r.2.2.1 := ⟨h0, R_ok8 h1 (fun _ _ _ => trivial), R_ok8 h2 (fun _ _ _ => trivial), fun k hk => h1.1 k hk⟩
  obtain ⟨B0, e0, B1, e1, B2, e2, rfl, rfl, rfl⟩ := hE.forms
  exact ⟨B0, e0, B1, e1, B2, e2, he, hE, hb⟩
theorem own_c {w0 w : World} {n1 nb nc : Nat} {a0 a1 a2 : Value} {B0 B1 B2 C0 C1 C2 : Option Addr} {f0 f1 f2 g0 g1 g2 : Nat} {l0 : List S80} {l1 l2 : List Int} (hB : Below w0.heap.size w0 w)
    (ha : Ed3 w w0.heap.size (fun k => k < n1) a0 a1 a2 l0 l1 l2) (hb : Ed3 w nb (fun k => n1 ≤ k) (.slice B0 l0.length f0) (.slice B1 l1.length f1) (.slice B2 l2.length f2) l0 l1 l2)
    (hc : Ed3 w nc (fun k => k < w0.heap.size) (.slice C0 l0.length g0) (.slice C1 l1.length g1) (.slice C2 l2.length g2) l0 l1 l2) (h0 : l0.length ≤ 5864062013000) (h1 : l1.length ≤ 140737488354000) (h2 : l2.length ≤ 140737488354000) :
    Calls Try.prog 38 #[.agg #[a0, a1, a2], .agg #[.slice B0 l0.length f0, .slice B1 l1.length f1, .slice B2 l2.length f2], .agg #[.slice C0 l0.length g0, .slice C1 l1.length g1, .slice C2 l2.length g2]] w
      fun e w' => e = .returned (.bool true) ∧ Below w0.heap.size w0 w' := by
  obtain ⟨k, hk⟩ := own_f l0 l1 l2 h0 h1 h2
  have keep : ∀ {W' : World} (q : Nat), Kept w W' (fun k_ => a0.ownBlock = some k_ ∨ a1.ownBlock = some k_ ∨ a2.ownBlock = some k_) → q < w.heap.size → (n1 ≤ q ∨ q < w0.heap.size) → W'.heap[q]? = w.heap[q]? := by
    intro W' q hk hq hn
    refine hk.2 q hq (fun hs => ?_)
    have h3 : q < n1 ∧ w0.heap.size ≤ q := by
      rcases hs with hs | hs | hs
      · exact ⟨ha.r0.1 q hs, Kd.R_base ha.r0 q hs⟩
      · exact ⟨ha.r1.1 q hs, Kd.R_base ha.r1 q hs⟩
      · exact ⟨ha.r2.1 q hs, Kd.R_base ha.r2 q hs⟩
    omega
  have hbk := fun (W' : World) (hk : Kept w W' (fun k_ => a0.ownBlock = some k_ ∨ a1.ownBlock = some k_ ∨ a2.ownBlock = some k_)) => (hb.step (w' := W') (fun q hp hq => keep q hk hq (.inl hp))).edc
  have hck := fun (W' : World) (hk : Kept w W' (fun k_ => a0.ownBlock = some k_ ∨ a1.ownBlock = some k_ ∨ a2.ownBlock = some k_)) => (hc.step (w' := W') (fun q hp hq => keep q hk hq (.inr hp))).edc
  refine (sapperlaw16_own.calls k (fun q => a0.ownBlock = some q) a0 l0 (fun q => a1.ownBlock = some q) a1 l1 (fun q => a2.ownBlock = some q) a2 l2 B0 f0 l0 B1 f1 l1 B2 f2 l2 C0 g0 l0 C1 g1 l1 C2 g2 l2 true w0 w hB (R_ok ha.r0 (fun _ h _ => h)) (R_ok8 ha.r1 (fun _ h _ => h))
    (fun q hq hx => ha.ne q hq hx.symm) (R_ok8 ha.r2 (fun _ h _ => h)) (fun q hq hx => ha.ne q hx hq.symm) (fun W' hk => (hbk W' hk).s) hb.edc.hs (fun W' hk => (hbk W' hk).di) hb.edc.hd (fun W' hk => (hbk W' hk).ex) hb.edc.hx
    (fun W' hk => (hck W' hk).s) hc.edc.hs (fun W' hk => (hck W' hk).di) hc.edc.hd (fun W' hk => (hck W' hk).ex) hc.edc.hx hk).mono fun e w' h => ⟨h.1, h.2.1⟩
end Go.Proofs.Ytemlbjpefomboaa
