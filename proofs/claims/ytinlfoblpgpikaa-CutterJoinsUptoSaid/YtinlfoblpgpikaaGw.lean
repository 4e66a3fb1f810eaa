/- cutter: windows given: a row of one's own. -/
import Derived.Test.YtinlfoblpgpikaaRj
import Derived.Test.YtinlfoblpgpikaaCt
import Derived.Test.YtinlfoblpgpikaaOp
namespace Go.Proofs.Ytinlfoblpgpikaa
open Go.RowKit Go.Shelf Go.Proofs.YtinlfoblpgpikaaW.PrintWords Go.Proofs.YtinlfoblpgpikaaW.PrintLast Go.Proofs.YtinlfoblpgpikaaW.PrintMore Go.Proofs.Ytinlfoblpgpikaa.Pr
set_option linter.unusedVariables false
set_option linter.unusedSimpArgs false
def from45 (e : S45) : S43 := ⟨e.f0, ⟨e.f1.f0.map f81, e.f1.f1, e.f1.f2⟩⟩
theorem to_from (L : List S45) : (L.map from45).map to45 = L := by
  rw [List.map_map]
  refine List.map_id'' (fun e => ?_) L
  show (⟨e.f0, ⟨(e.f1.f0.map f81).map t81, e.f1.f1, e.f1.f2⟩⟩ : S45) = e
  rw [t81_f81]
theorem face_own {pos : Int} {A0 : Option Addr} {c0 ns : Nat} {L : List S81} {A1 : Option Addr} {c1 nd : Nat} {d : List Int} {A2 : Option Addr} {c2 nx : Nat} {x : List Int} {w : World} (hs : Kd.C k81 w A0 ns L) (h0 : ns ≤ c0) (hd : (Kd.int .u8).C w A1 nd d) (h1 : nd ≤ c1) (hx : (Kd.int .u8).C w A2 nx x) (h2 : nx ≤ c2) (l0 : ns ≤ 1048576) (l1 : nd ≤ 1048576) (l2 : nx ≤ 1048576) :
    Calls Try.prog 20 #[.agg #[.int .i64 pos, .slice A0 ns c0, .slice A1 nd c1, .slice A2 nx c2]] w fun e w' => ∃ B0 b0 B1 b1 B2 b2, e = .returned (.agg #[.int .i64 pos, .slice B0 ns b0, .slice B1 nd b1, .slice B2 nx b2]) ∧ WvO w' w.heap.size ⟨.slice B0 ns b0, .slice B1 nd b1, .slice B2 nx b2, from45 ⟨pos, ⟨L, d, x⟩⟩⟩ ∧ Below w.heap.size w w' := by
  obtain rfl : L.length = ns := hs.1
  obtain rfl : d.length = nd := hd.1
  obtain rfl : x.length = nx := hx.1
  have hf := face_f pos L d x (by omega) (by omega) (by omega)
  refine (sapperlaw17_faceWindow.calls (L.length + 1) pos A0 c0 L A1 c1 d A2 c2 x pos (L.map f81) d x w hs h0 hd h1 hx h2 hf).mono ?_
  rintro e w' ⟨v0, v1, v2, rfl, r0, r1, r2, hb⟩
  obtain ⟨B0, b0, e0⟩ := Kd.R_slice r0
  obtain ⟨B1, b1, e1⟩ := Kd.R_slice r1
  obtain ⟨B2, b2, e2⟩ := Kd.R_slice r2
  rw [List.length_map] at e0
  subst e0 e1 e2
  exact ⟨B0, b0, B1, b1, B2, b2, rfl, ⟨own_of_R82 r0, own_of_R8 r1, own_of_R8 r2, fun k hk hk2 => r1.1 k hk hk2.symm⟩, hb⟩
/-- A row of windows, all one's own. -/
structure RowO (W : World) (base : Nat) (v : Value) (l : List Wv) : Prop where
  row : W.ownsRow base 43 4 v l.length (cellsW l)
  el : ∀ a ∈ l, WvO W base a
  dis : l.Pairwise (fun a b => ∀ k, a.B k → ¬ b.B k)
theorem RowO.below {W W' : World} {base : Nat} {v : Value} {l : List Wv} (h : RowO W base v l) (hb : Below W.heap.size W W') : RowO W' base v l :=
  ⟨pw_own_below h.row hb, fun a ha => (h.el a ha).below hb, h.dis⟩
theorem RowO.nil (W : World) (base : Nat) : RowO W base (.slice none 0 0) [] := ⟨own_nil _ _ _ _, fun a ha => (by cases ha), List.Pairwise.nil⟩
theorem RowO.push {W : World} {base lo : Nat} {v : Value} {l : List Wv} {a : Wv} (h : RowO W base v l) (ha : WvO W lo a) (hlo : base ≤ lo) (hold : ∀ b ∈ l, ∀ k, b.B k → k < lo) {A0 : Option Addr} {n0 c0 : Nat} {A1 : Option Addr} {n1 c1 : Nat} {A2 : Option Addr} {n2 c2 : Nat} (e0 : a.s = .slice A0 n0 c0) (e1 : a.d = .slice A1 n1 c1) (e2 : a.x = .slice A2 n2 c2) (hb : base ≤ W.heap.size) {g : Nat} {ty : TypeId} (hg : W.heap[g]? = some (.cells #[.int .i64 a.y.f0, a.s, a.d, a.x] ty)) (hl : l.length ≤ 2000000) :
    ∃ v' w', (Builtin.append_ #[31, 31] 31 #[v, .slice (some ⟨g, 0, none⟩) 1 1]).run Try.prog W = .ok v' w' ∧ RowO w' base v' (l ++ [a]) ∧ W.grownBy w' v.ownBlock := by
  have hsrc : Src W (some ⟨g, 0, none⟩) 1 4 a.cells := by
    refine ⟨rfl, fun j u hj => ?_, by rw [Wv.cells, e0, e1, e2]; simp [Value.oneCell']⟩
    have hj4 : j < 4 := by
      rcases Nat.lt_or_ge j 4 with h3 | h3
      · exact h3
      · rw [List.getElem?_eq_none (by simpa [Wv.cells] using h3)] at hj; cases hj
    refine ⟨_, rfl, ?_⟩
    match j, hj4, hj with
    | 0, _, hj => rw [add_plain, blk_cell hg, ← hj]; rfl
    | 1, _, hj => rw [add_plain, blk_cell hg, ← hj]; rfl
    | 2, _, hj => rw [add_plain, blk_cell hg, ← hj]; rfl
    | 3, _, hj => rw [add_plain, blk_cell hg, ← hj]; rfl
  obtain ⟨v', w', hrun, ho, hgr, _, _⟩ := run_app (P := Try.prog) W base 31 31 43 (.agg #[.int .i64 0, .slice none 0 0, .slice none 0 0, .slice none 0 0]) 4 80 eltW v _ _ h.row (some ⟨g, 0, none⟩) 1 1 a.cells hsrc (by omega) hb
  refine ⟨v', w', hrun, ⟨by rw [List.length_append, cellsW_snoc]; exact ho, fun b hbm => ?_, ?_⟩, hgr⟩
  · have key : ∀ (b : Wv) (bs : Nat), WvO W bs b → WvO w' bs b := fun b bs hw =>
      hw.upd (S := fun k => v.ownBlock = some k) (Upd.of_grown hgr (fun k e => e)) (fun k hk hv => hw.not43 h.row k hv hk)
    rcases List.mem_append.1 hbm with hbm | hbm
    · exact key b base (h.el b hbm)
    · obtain rfl := List.mem_singleton.1 hbm
      exact (key b lo ha).lower hlo
  · rw [List.pairwise_append]
    refine ⟨h.dis, List.pairwise_singleton _ _, fun b hbm c hc k hk hk2 => ?_⟩
    obtain rfl := List.mem_singleton.1 hc
    have := hold b hbm k hk
    have := ha.base k hk2
    omega
theorem RowO.C {W : World} {base c n : Nat} {A : Option Addr} {l : List Wv} (h : RowO W base (.slice A n c) l) (hn : l.length = n) : Kd.C k43 W A n (l.map Wv.y) ∧ n ≤ c := by
  refine row_C43 (b := base) ?_ hn (fun a ha => (h.el a ha).c)
  have := h.row
  rwa [hn] at this
theorem RowO.form {W : World} {base n : Nat} {v : Value} {l : List Wv} (h : RowO W base v l) (hn : l.length = n) : ∃ A c, v = .slice A n c := hn ▸ own_slice h.row
theorem RowO.lt {W : World} {base : Nat} {v : Value} {l : List Wv} (h : RowO W base v l) : ∀ b ∈ l, ∀ k, b.B k → k < W.heap.size := fun b hb k hk => (h.el b hb).lt k hk
theorem tot_le (n m : Nat) : ∀ X : List S43, X.length ≤ n → (∀ y ∈ X, y.f1.f0.length ≤ m ∧ y.f1.f1.length ≤ m ∧ y.f1.f2.length ≤ m) → totS X ≤ X.length * (m + 1) ∧ totD X ≤ X.length * m ∧ totX X ≤ X.length * m
  | [], _, _ => by simp [totS, totD, totX]
  | y :: l, hl, h => by
    have h1 := h y List.mem_cons_self
    have h2 := tot_le n m l (by simp at hl; omega) (fun z hz => h z (List.mem_cons_of_mem _ hz))
    simp only [totS, totD, totX, List.length_cons, Nat.add_mul, Nat.one_mul]
    omega
end Go.Proofs.Ytinlfoblpgpikaa
