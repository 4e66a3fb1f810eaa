/- edit: own, where both edits are the document's. -/
import Derived.Test.YtemlbjpefomboaaWo
import Derived.Test.YtemlbjpefomboaaE5
import Derived.Test.YtemlbjpefomboaaKe
namespace Go.Proofs.Ytemlbjpefomboaa
open Go.RowKit Go.Shelf Go.Proofs.YtemlbjpefomboaaW.PrintWords Go.Proofs.YtemlbjpefomboaaW.PrintLast Go.Proofs.YtemlbjpefomboaaW.PrintMore Go.Proofs.Ytemlbjpefomboaa.Pr
set_option linter.unusedVariables false
set_option linter.unusedSimpArgs false
theorem spoil_l3 : ∀ (j i : Nat) (xs : List S80) (ys zs : List Int), i + j = 40 → xs.length + j ≤ 5864062014000 → ys.length + j ≤ 140737488355000 → zs.length + j ≤ 140737488355000 →
    sapperlaw16_spoil.l3 (j + 1) i xs ys zs = some ((xs.length + j : Nat) : Int)
  | 0, i, xs, ys, zs, hi, h1, h2, h3 => by
    obtain rfl : i = 40 := by omega
    rw [sapperlaw16_spoil.l3, if_neg (by omega)]
    rfl
  | j + 1, i, xs, ys, zs, hi, h1, h2, h3 => by
    rw [sapperlaw16_spoil.l3, if_pos (by omega), if_pos (by omega), if_pos (by omega), if_pos (by omega), w64 ((i : Int) + 1) (by omega), show ((i : Int) + 1) = ((i + 1 : Nat) : Int) by omega, spoil_l3 j (i + 1) _ _ _ (by omega) (by simp; omega) (by simp; omega) (by simp; omega)]
    simp
    omega
theorem spoil_l2 : ∀ (j i : Nat) (xs : List S80) (ys zs : List Int), i + j = zs.length → xs.length ≤ 5864062013000 → ys.length ≤ 140737488354000 → zs.length ≤ 140737488354000 →
    sapperlaw16_spoil.l2 (41 + j + 1) i xs ys zs = some ((xs.length + 40 : Nat) : Int)
  | 0, i, xs, ys, zs, hi, h1, h2, h3 => by
    rw [sapperlaw16_spoil.l2, if_neg (by omega)]
    exact spoil_l3 40 0 xs ys zs (by omega) (by omega) (by omega) (by omega)
  | j + 1, i, xs, ys, zs, hi, h1, h2, h3 => by
    rw [show 41 + (j + 1) + 1 = (41 + j + 1) + 1 by omega, sapperlaw16_spoil.l2, if_pos (by omega), if_pos (by omega), w64 ((i : Int) + 1) (by omega), show ((i : Int) + 1) = ((i + 1 : Nat) : Int) by omega]
    exact spoil_l2 j (i + 1) _ _ _ (by simp; omega) h1 h2 (by simp; omega)
theorem spoil_l1 (K : Nat) : ∀ (j i : Nat) (xs : List S80) (ys zs : List Int), i + j = ys.length → xs.length ≤ 5864062013000 → ys.length ≤ 140737488354000 → zs.length ≤ 140737488354000 → K = zs.length →
    sapperlaw16_spoil.l1 (41 + K + 1 + j + 1) i xs ys zs = some ((xs.length + 40 : Nat) : Int)
  | 0, i, xs, ys, zs, hi, h1, h2, h3, hK => by
    rw [sapperlaw16_spoil.l1, if_neg (by omega)]
    subst hK
    exact spoil_l2 zs.length 0 xs ys zs (by omega) h1 h2 h3
  | j + 1, i, xs, ys, zs, hi, h1, h2, h3, hK => by
    rw [show 41 + K + 1 + (j + 1) + 1 = (41 + K + 1 + j + 1) + 1 by omega, sapperlaw16_spoil.l1, if_pos (by omega), if_pos (by omega), w64 ((i : Int) + 1) (by omega), show ((i : Int) + 1) = ((i + 1 : Nat) : Int) by omega]
    exact spoil_l1 K j (i + 1) _ _ _ (by simp; omega) h1 (by simp; omega) h3 hK
theorem spoil_l0 (K M : Nat) : ∀ (j i : Nat) (xs : List S80) (ys zs : List Int), i + j = xs.length → xs.length ≤ 5864062013000 → ys.length ≤ 140737488354000 → zs.length ≤ 140737488354000 → K = zs.length → M = ys.length →
    sapperlaw16_spoil.l0 (41 + K + 1 + M + 1 + j + 1) i xs ys zs = some ((xs.length + 40 : Nat) : Int)
  | 0, i, xs, ys, zs, hi, h1, h2, h3, hK, hM => by
    rw [sapperlaw16_spoil.l0, if_neg (by omega)]
    subst hM
    exact spoil_l1 K ys.length 0 xs ys zs (by omega) h1 h2 h3 hK
  | j + 1, i, xs, ys, zs, hi, h1, h2, h3, hK, hM => by
    rw [show 41 + K + 1 + M + 1 + (j + 1) + 1 = (41 + K + 1 + M + 1 + j + 1) + 1 by omega, sapperlaw16_spoil.l0, if_pos (by omega), if_pos (by omega), w64 ((i : Int) + 1) (by omega), show ((i : Int) + 1) = ((i + 1 : Nat) : Int) by omega]
    have := spoil_l0 K M j (i + 1) (xs.set (i : Int).toNat ⟨81, 0, 0⟩) ys zs (by simp; omega) (by simp; omega) h2 h3 hK hM
    rw [List.length_set] at this
    exact this
theorem own_f (l0 : List S80) (l1 l2 : List Int) (h0 : l0.length ≤ 5864062013000) (h1 : l1.length ≤ 140737488354000) (h2 : l2.length ≤ 140737488354000) : ∃ k, sapperlaw16_own.f k l0 l1 l2 l0 l1 l2 l0 l1 l2 = some true := by
  obtain ⟨k0, hk0⟩ := alike_self l0 l1 l2 (by unfold fits; omega)
  have hs := spoil_l0 l2.length l1.length l0.length 0 l0 l1 l2 (by omega) h0 h1 h2 rfl rfl
  obtain ⟨K, hK⟩ : ∃ K, 41 + l2.length + 1 + l1.length + 1 + l0.length + 1 = K := ⟨_, rfl⟩
  rw [hK] at hs
  have hal : ∀ m, sapperref16_Alike.f (k0 + m) l0 l1 l2 l0 l1 l2 = some true := fun m => at_rounds (g := fun k => sapperref16_Alike.f k l0 l1 l2 l0 l1 l2) (fun k => sapperref16_Alike.mono _ _ _ _ _ _ k) (Nat.le_add_right _ _) hk0
  have hsp : sapperlaw16_spoil.f (k0 + K) l0 l1 l2 = some ((l0.length + 40 : Nat) : Int) := at_rounds (g := fun k => sapperlaw16_spoil.f k l0 l1 l2) (fun k => sapperlaw16_spoil.mono _ _ _ k) (Nat.le_add_left _ _) hs
  refine ⟨k0 + K + 1, ?_⟩
  unfold sapperlaw16_own.f
  rw [show k0 + K + 1 = k0 + (K + 1) by omega, hal, Option.bind_some, if_pos rfl, Option.bind_some, show k0 + (K + 1) = (k0 + K) + 1 by omega, sapperlaw16_own.j0, if_neg (by simp), hsp, Option.bind_some, if_pos (by omega), hal, Option.bind_some]
theorem own_c {w0 w : World} {n1 nb nc : Nat} {a0 a1 a2 : Value} {B0 B1 B2 C0 C1 C2 : Option Addr} {f0 f1 f2 g0 g1 g2 : Nat} {l0 : List S80} {l1 l2 : List Int} (hB : Below w0.heap.size w0 w)
    (ha : Ed3 w w0.heap.size (fun k => k < n1) a0 a1 a2 l0 l1 l2) (hb : Ed3 w nb (fun k => n1 ≤ k) (.slice B0 l0.length f0) (.slice B1 l1.length f1) (.slice B2 l2.length f2) l0 l1 l2)
    (hc : Ed3 w nc (fun k => k < w0.heap.size) (.slice C0 l0.length g0) (.slice C1 l1.length g1) (.slice C2 l2.length g2) l0 l1 l2) (h0 : l0.length ≤ 5864062013000) (h1 : l1.length ≤ 140737488354000) (h2 : l2.length ≤ 140737488354000) :
    Calls Try.prog 38 #[.agg #[a0, a1, a2], .agg #[.slice B0 l0.length f0, .slice B1 l1.length f1, .slice B2 l2.length f2], .agg #[.slice C0 l0.length g0, .slice C1 l1.length g1, .slice C2 l2.length g2]] w
      fun e w' => e = .returned (.bool true) ∧ Below w0.heap.size w0 w' := by
  obtain ⟨k, hk⟩ := own_f l0 l1 l2 h0 h1 h2
  have keep : ∀ {W' : World} (q : Nat), Kept w W' (fun k_ => a0.ownBlock = some k_ ∨ a1.ownBlock = some k_ ∨ a2.ownBlock = some k_) → q < w.heap.size → (n1 ≤ q ∨ q < w0.heap.size) → W'.heap[q]? = w.heap[q]? := by
    intro W' q hk hq hn
    refine hk.2 q hq (fun hs => ?_)
    have h3 : q < n1 ∧ w0.heap.size ≤ q := by
      rcases hs with hs | hs | hs
      · exact ⟨ha.r0.1 q hs, Kd.R_base ha.r0 q hs⟩
      · exact ⟨ha.r1.1 q hs, Kd.R_base ha.r1 q hs⟩
      · exact ⟨ha.r2.1 q hs, Kd.R_base ha.r2 q hs⟩
    omega
  have hbk := fun (W' : World) (hk : Kept w W' (fun k_ => a0.ownBlock = some k_ ∨ a1.ownBlock = some k_ ∨ a2.ownBlock = some k_)) => (hb.step (w' := W') (fun q hp hq => keep q hk hq (.inl hp))).edc
  have hck := fun (W' : World) (hk : Kept w W' (fun k_ => a0.ownBlock = some k_ ∨ a1.ownBlock = some k_ ∨ a2.ownBlock = some k_)) => (hc.step (w' := W') (fun q hp hq => keep q hk hq (.inr hp))).edc
  refine (sapperlaw16_own.calls k (fun q => a0.ownBlock = some q) a0 l0 (fun q => a1.ownBlock = some q) a1 l1 (fun q => a2.ownBlock = some q) a2 l2 B0 f0 l0 B1 f1 l1 B2 f2 l2 C0 g0 l0 C1 g1 l1 C2 g2 l2 true w0 w hB (R_ok ha.r0 (fun _ h _ => h)) (R_ok8 ha.r1 (fun _ h _ => h))
    (fun q hq hx => ha.ne q hq hx.symm) (R_ok8 ha.r2 (fun _ h _ => h)) (fun q hq hx => ha.ne q hx hq.symm) (fun W' hk => (hbk W' hk).s) hb.edc.hs (fun W' hk => (hbk W' hk).di) hb.edc.hd (fun W' hk => (hbk W' hk).ex) hb.edc.hx
    (fun W' hk => (hck W' hk).s) hc.edc.hs (fun W' hk => (hck W' hk).di) hc.edc.hd (fun W' hk => (hck W' hk).ex) hc.edc.hx hk).mono fun e w' h => ⟨h.1, h.2.1⟩
end Go.Proofs.Ytemlbjpefomboaa
