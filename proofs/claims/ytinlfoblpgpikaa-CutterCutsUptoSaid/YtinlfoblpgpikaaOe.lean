/- cutter: opening an edit of the document's; giving it; what the document's Cut answers, in memory. -/
import Derived.Test.YtinlfoblpgpikaaOc
import Derived.Test.YtinlfoblpgpikaaRw
import Derived.Test.YtinlfoblpgpikaaCc
namespace Go.Proofs.Ytinlfoblpgpikaa
open Go.RowKit Go.ChangeShapes Go.WideShapes Go.Shelf Go.Proofs.YtinlfoblpgpikaaW.PrintWords Go.Proofs.YtinlfoblpgpikaaW.PrintLast Go.Proofs.YtinlfoblpgpikaaW.PrintMore Go.Proofs.Ytinlfoblpgpikaa.Pr
set_option linter.unusedVariables false
set_option linter.unusedSimpArgs false
/-- An edit of the document's that came in. -/
structure EdU (W : World) (A0 : Option Addr) (c0 : Nat) (L : List S81) (A1 : Option Addr) (c1 : Nat) (d : List Int) (A2 : Option Addr) (c2 : Nat) (x : List Int) : Prop where
  s : Kd.C k81 W A0 L.length L
  di : (Kd.int .u8).C W A1 d.length d
  ex : (Kd.int .u8).C W A2 x.length x
  h0 : L.length ≤ c0
  h1 : d.length ≤ c1
  h2 : x.length ≤ c2
  l0 : L.length ≤ 1048576
  l1 : d.length ≤ 1048576
  l2 : x.length ≤ 1048576
set_option maxRecDepth 100000 in
theorem open_edit17U {H : Type} {enc : TypeId × Value → H} {W : World} {base : Nat} {v : Value} {d : DataW H} {p : List MemPlace} (hv : Value.okWide Try.prog W .any base 26 v)
    (h : DataW.Trod enc Try.prog W 0 (fun _ => true) true 26 v d p) (_ : ∀ n ∈ d.weights Try.prog 26, n ≤ reachBytes) (hbk : Rows.uptoBulk d ≤ 1048576) :
    ∃ (A0 : Option Addr) (c0 : Nat) (L : List S81) (A1 : Option Addr) (c1 : Nat) (di : List Int) (A2 : Option Addr) (c2 : Nat) (ex : List Int), v = .agg #[.slice A0 L.length c0, .slice A1 di.length c1, .slice A2 ex.length c2] ∧
      EdU W A0 c0 L A1 c1 di A2 c2 ex := by
  obtain ⟨v0, v1, v2, y0, y1, y2, n, rfl, rfl, rfl, t0, t1, t2⟩ := Go.Joins.open_agg3 Try.underlying26 (by kernel_rfl) (by kernel_rfl) hv h
  obtain ⟨A0, c0, st, rfl, h0, h1, h2, h3⟩ := steps_of_trod t0
  obtain ⟨A1, c1, di, rfl, k1, k2⟩ := bytes_of_trod t1
  obtain ⟨A2, c2, ex, rfl, l1, l2⟩ := bytes_of_trod t2
  simp only [Rows.uptoBulk, Rows.uptoBulkAll] at hbk
  exact ⟨A0, c0, st, A1, c1, di, A2, c2, ex, rfl, ⟨h0, k1.r, l1.r, h1, k1.hc, l1.hc, by omega, by omega, by omega⟩⟩
theorem EdU.below {W W' : World} {A0 : Option Addr} {c0 : Nat} {L : List S81} {A1 : Option Addr} {c1 : Nat} {d : List Int} {A2 : Option Addr} {c2 : Nat} {x : List Int} (h : EdU W A0 c0 L A1 c1 d A2 c2 x) (hb : Below W.heap.size W W') : EdU W' A0 c0 L A1 c1 d A2 c2 x :=
  ⟨Kd.C_below h.s hb, Kd.C_below h.di hb, Kd.C_below h.ex hb, h.h0, h.h1, h.h2, h.l0, h.l1, h.l2⟩
theorem face26_f (L : List S81) (d x : List Int) (hl : L.length < 5864062014805) (hd : d.length < 140737488355328) (hx : x.length < 140737488355328) : sapperlaw17_face.f (L.length + 1) L d x = some (L.map f81, d, x) := by
  have hc : ∀ l : List Int, l.length < 140737488355328 → sapperref01_Copy.f l = some l := fun l h => by
    unfold sapperref01_Copy.f
    rw [Option.bind_some, if_pos (by simpa using h), List.nil_append]
  have hs := faceSteps_l0 L hl L.length 0 [] (by omega) rfl
  rw [List.nil_append, List.drop_zero] at hs
  unfold sapperlaw17_face.f sapperlaw17_faceSteps.f
  rw [show (0 : Int) = ((0 : Nat) : Int) from rfl, hs, Option.bind_some, hc d hd, Option.bind_some, hc x hx, Option.bind_some]
theorem face26_own {A0 : Option Addr} {c0 : Nat} {L : List S81} {A1 : Option Addr} {c1 : Nat} {d : List Int} {A2 : Option Addr} {c2 : Nat} {x : List Int} {w : World} (h : EdU w A0 c0 L A1 c1 d A2 c2 x) :
    Calls Try.prog 12 #[.agg #[.slice A0 L.length c0, .slice A1 d.length c1, .slice A2 x.length c2]] w fun e w' => ∃ B0 b0 B1 b1 B2 b2, e = .returned (.agg #[.slice B0 L.length b0, .slice B1 d.length b1, .slice B2 x.length b2]) ∧ WvO w' w.heap.size ⟨.slice B0 L.length b0, .slice B1 d.length b1, .slice B2 x.length b2, from45 ⟨0, ⟨L, d, x⟩⟩⟩ ∧ Below w.heap.size w w' := by
  have l0 := h.l0
  have l1 := h.l1
  have l2 := h.l2
  have hf := face26_f L d x (by omega) (by omega) (by omega)
  refine (sapperlaw17_face.calls (L.length + 1) A0 c0 L A1 c1 d A2 c2 x (L.map f81) d x w h.s h.h0 h.di h.h1 h.ex h.h2 hf).mono ?_
  rintro e w' ⟨v0, v1, v2, rfl, r0, r1, r2, hb⟩
  obtain ⟨B0, b0, e0⟩ := Kd.R_slice r0
  obtain ⟨B1, b1, e1⟩ := Kd.R_slice r1
  obtain ⟨B2, b2, e2⟩ := Kd.R_slice r2
  rw [List.length_map] at e0
  subst e0 e1 e2
  exact ⟨B0, b0, B1, b1, B2, b2, rfl, ⟨own_of_R82 r0, own_of_R8 r1, own_of_R8 r2, fun k hk hk2 => r1.1 k hk hk2.symm⟩, hb⟩
theorem rcut_c {A0 : Option Addr} {c0 : Nat} {L : List S81} {A1 : Option Addr} {c1 : Nat} {d : List Int} {A2 : Option Addr} {c2 : Nat} {x : List Int} {w : World} (win : Int) (h : EdU w A0 c0 L A1 c1 d A2 c2 x) {X : List S43} {code : Int} (hr : cutR (L.map f81) d x win = (X, code)) :
    Calls Try.prog 14 #[.agg #[.slice A0 L.length c0, .slice A1 d.length c1, .slice A2 x.length c2], .int .i64 win] w fun e w' => ∃ B b, e = .returned (.tuple #[.slice B X.length b, .int .i64 code]) ∧ Kd.R k45 45 w' w.heap.size (fun _ => True) (.slice B X.length b) (X.map to45) ∧ Below w.heap.size w w' := by
  have l0 := h.l0
  have l1 := h.l1
  have l2 := h.l2
  obtain ⟨k, hk⟩ := rcut_f L d x win (by omega) (by omega) (by omega)
  rw [hr] at hk
  refine (sapperref17_Cut.calls k A0 c0 L A1 c1 d A2 c2 x win (X.map to45) code w h.s h.h0 h.di h.h1 h.ex h.h2 hk).mono ?_
  rintro e w' ⟨v0, rfl, r0, hb⟩
  have r1 := Kd.S_R r0
  obtain ⟨B0, b0, e0⟩ := Kd.R_slice r1
  rw [List.length_map] at e0
  subst e0
  exact ⟨B0, b0, rfl, r1, hb⟩
theorem RowO.upd {W W' : World} {base : Nat} {v : Value} {l : List Wv} {S : Nat → Prop} (h : RowO W base v l) (hu : Upd S W W') (hs : ∀ k, base ≤ k → ¬ S k) : RowO W' base v l :=
  ⟨own_upd h.row hu (fun k hk => hs k (own_base h.row k hk)), fun a ha => (h.el a ha).upd hu (fun k hk => hs k ((h.el a ha).base k hk)), h.dis⟩
theorem C82n {e : TypeId} {W : World} {b c : Nat} {A : Option Addr} {l : List S82} {n : Nat} (h : OS e W b (.slice A n c) l) (hl : l.length = n) : Kd.C k82 W A n l ∧ n ≤ c := by
  subst hl
  exact ⟨h.C82 rfl, own_cap' h⟩
theorem C8n {W : World} {b n c : Nat} {A : Option Addr} {l : List Int} (h : OB W b (.slice A n c) l) (hl : l.length = n) : (Kd.int .u8).C W A n l ∧ n ≤ c := by
  subst hl
  exact ⟨own_C8 h, own_cap' h⟩
/-- How long a window's lists are. -/
theorem mkW_len (L : List S94) (h : L.length ≤ 65536) : (mkW L).st.length ≤ 65536 ∧ (mkW L).d.length ≤ 65536 ∧ (mkW L).x.length ≤ 65536 := by
  obtain ⟨ok, hs⟩ := fold_sz L ws0 wok0
  have e : (mkW L).sz = 0 + L.length := hs
  have h1 := ok.n
  have h2 := ok.dx
  refine ⟨?_, ?_, ?_⟩
  · show ((mkW L).dn ++ (mkW L).cu.toList).length ≤ _
    rw [List.length_append]
    unfold mkW at e ⊢
    omega
  · unfold mkW at e ⊢; omega
  · unfold mkW at e ⊢; omega
theorem cutL_el (size : Nat) (hs : 0 < size) (hs2 : size ≤ 65536) : ∀ (n : Nat) (L : List S94), L.length ≤ n → ∀ y ∈ cutL size L, y.f1.f0.length ≤ 65536 ∧ y.f1.f1.length ≤ 65536 ∧ y.f1.f2.length ≤ 65536
  | 0, L, hl, y, hy => by
    obtain rfl : L = [] := List.length_eq_zero_iff.1 (by omega)
    cases hy
  | n + 1, L, hl, y, hy => by
    by_cases hne : L = []
    · subst hne; cases hy
    · have hp : 0 < L.length := List.length_pos_iff.2 hne
      rw [cutL_cons size hs L hne] at hy
      rcases List.mem_cons.1 hy with rfl | hy
      · exact mkW_len _ (by rw [List.length_take]; omega)
      · exact cutL_el size hs hs2 n (L.drop size) (by rw [List.length_drop]; omega) y hy
theorem cutL_len (size : Nat) (hs : 0 < size) : ∀ (n : Nat) (L : List S94), L.length ≤ n → (cutL size L).length ≤ n
  | 0, L, hl => by
    obtain rfl : L = [] := List.length_eq_zero_iff.1 (by omega)
    exact Nat.le_refl _
  | n + 1, L, hl => by
    by_cases hne : L = []
    · subst hne; exact Nat.zero_le _
    · have hp : 0 < L.length := List.length_pos_iff.2 hne
      rw [cutL_cons size hs L hne]
      have := cutL_len size hs n (L.drop size) (by rw [List.length_drop]; omega)
      simp only [List.length_cons]
      omega
theorem cutR_el {st : List S82} {d x : List Int} {win : Int} {X : List S43} {code : Int} (h : cutR st d x win = (X, code)) : (∀ y ∈ X, y.f1.f0.length ≤ 65536 ∧ y.f1.f1.length ≤ 65536 ∧ y.f1.f2.length ≤ 65536) ∧ X.length ≤ 33554432 := by
  unfold cutR at h
  split at h
  · cases h; exact ⟨fun y hy => (by cases hy), Nat.zero_le _⟩
  · split at h
    · cases h; exact ⟨fun y hy => (by cases hy), Nat.zero_le _⟩
    · rename_i h0 h1
      obtain ⟨hm, hA, hC, hsz, _⟩ := checked_zero (Classical.not_not.1 h1)
      have := og_len st d x 0 hm hA hC
      cases h
      exact ⟨cutL_el _ (by omega) (by omega) _ _ (Nat.le_refl _), Nat.le_trans (cutL_len _ (by omega) _ _ (Nat.le_refl _)) (by omega)⟩
end Go.Proofs.Ytinlfoblpgpikaa
