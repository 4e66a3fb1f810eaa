/- vcd: the table of codes: put, what it writes. -/
import Derived.Test.YtmfnjmecnhagmaaAb
import Derived.Deep.MidRow
namespace Go.Proofs.Ytmfnjmecnhagmaa
open Go.RowKit Go.Shelf Go.Proofs.YtmfnjmecnhagmaaW.PrintWords Go.Proofs.YtmfnjmecnhagmaaW.PrintLast Go.Proofs.YtmfnjmecnhagmaaW.PrintMore Go.Proofs.Ytmfnjmecnhagmaa.Pr
set_option linter.unusedVariables false
set_option linter.unusedSimpArgs false
/-- A half: kind, size, mode. -/
abbrev Hf := Int × Int × Int
def hz : Hf := (0, 0, 0)
def hcells (h : Hf) : List Value := [.int .i64 h.1, .int .i64 h.2.1, .int .i64 h.2.2]
def pcells (p : Hf × Hf) : List Value := hcells p.1 ++ hcells p.2
def tcells (P : List (Hf × Hf)) : List Value := P.flatMap pcells
theorem tcells_len : ∀ (P : List (Hf × Hf)), (tcells P).length = P.length * 6
  | [] => rfl
  | p :: l => by
    have := tcells_len l
    unfold tcells at this ⊢
    rw [List.flatMap_cons, List.length_append, this, List.length_cons]
    simp [pcells, hcells]
    omega
theorem tcells_snoc (P : List (Hf × Hf)) (p : Hf × Hf) : tcells (P ++ [p]) = tcells P ++ pcells p := by simp [tcells]
def z0 : Value := .int .i64 0
/-- The table so far, and the number of its next code. -/
structure TB (W : World) (gt ga : Nat) (P : List (Hf × Hf)) : Prop where
  c : ∃ cur : Array Value, W.heap[gt]? = some (.cells cur 26 (0, 0)) ∧ cur.toList = tcells P ++ List.replicate (1536 - P.length * 6) z0
  a : W.heap[ga]? = some (.cells #[.int .i64 P.length] 3 (0, 0))
  ne : gt ≠ ga
  n : P.length ≤ 256
theorem TB.below {W W' : World} {gt ga : Nat} {P : List (Hf × Hf)} (h : TB W gt ga P) (hb : Below W.heap.size W W') : TB W' gt ga P := by
  obtain ⟨cur, h1, h2⟩ := h.c
  exact ⟨⟨cur, blk_below h1 hb, h2⟩, blk_below h.a hb, h.ne, h.n⟩
theorem info25 : (Try.prog.info? 25).map (·.size) = some 6 := by kernel_rfl
theorem tab_step (A v : List Value) (N a : Nat) (h : A.length = a) : (A ++ List.replicate N z0).take a ++ v ++ (A ++ List.replicate N z0).drop (a + 6) = (A ++ v) ++ List.replicate (N - 6) z0 := by
  subst h
  rw [List.take_left', ← List.drop_drop, List.drop_left', List.drop_replicate]
  · rfl
  · rfl
theorem TB.store {W : World} {gt ga : Nat} {P : List (Hf × Hf)} (h : TB W gt ga P) (hn : P.length < 256) (p : Hf × Hf) {n : Nat} (hgt : n ≤ gt) (hga : n ≤ ga) :
    W.there gt (P.length * 6) 6 ∧ (W.setCells gt (P.length * 6) (pcells p)).cell? ⟨ga, 0, none⟩ = some (.int .i64 P.length) ∧ (W.setCells gt (P.length * 6) (pcells p)).frozen? ⟨ga, 0, none⟩ = false ∧
      TB ((W.setCells gt (P.length * 6) (pcells p)).setCell ⟨ga, 0, none⟩ (.int .i64 ((P.length : Int) + 1))) gt ga (P ++ [p]) ∧ Below n W ((W.setCells gt (P.length * 6) (pcells p)).setCell ⟨ga, 0, none⟩ (.int .i64 ((P.length : Int) + 1))) := by
  obtain ⟨cur, h1, h2⟩ := h.c
  have hsz : cur.size = 1536 := by
    have := congrArg List.length h2
    rw [Array.length_toList, List.length_append, tcells_len, List.length_replicate] at this
    omega
  have hpl : (pcells p).length = 6 := by simp [pcells, hcells]
  obtain ⟨cur', k1, k2, k3⟩ := setCells_row (pcells p) (P.length * 6) W cur h1 (by omega)
  obtain ⟨s1, s2, s3, s4⟩ := setCells_same gt (pcells p) (P.length * 6) W
  have hfar := fun k hk => setCells_far (g := gt) (pcells p) (P.length * 6) (w := W) k hk
  have ha2 : (W.setCells gt (P.length * 6) (pcells p)).heap[ga]? = some (.cells #[.int .i64 P.length] 3 (0, 0)) := (hfar ga (Ne.symm h.ne)).trans h.a
  have e := blk_set ha2 0 (.int .i64 ((P.length : Int) + 1))
  refine ⟨fun j hj => ⟨?_, ?_⟩, ?_, ?_, ⟨⟨cur', ?_, ?_⟩, ?_, h.ne, by rw [List.length_append]; simp; omega⟩, ?_⟩
  · rw [blk_cell h1]
    simp
    omega
  · exact blk_frozen h1 _
  · have := blk_cell ha2 0
    simpa using this
  · exact blk_frozen ha2 _
  · exact (Below.heap_setCell _ ⟨ga, 0, none⟩ _ gt h.ne).trans k1
  · rw [k3, h2, tcells_snoc, hpl, tab_step (tcells P) (pcells p) _ _ (tcells_len P), List.length_append, List.length_singleton, Nat.add_mul, Nat.one_mul, ← Nat.sub_sub]
  · rw [show (((P ++ [p]).length : Nat) : Int) = (P.length : Int) + 1 by rw [List.length_append]; rfl]
    exact e
  · refine ((⟨s1, s2, s3, by rw [s4]; exact Nat.le_refl _, fun k hk => hfar k (by omega)⟩ : Below n W (W.setCells gt (P.length * 6) (pcells p)))).setCell hga _
set_option maxRecDepth 100000 in
set_option maxHeartbeats 4000000 in
theorem put_c {W : World} {gt ga : Nat} {P : List (Hf × Hf)} (h : TB W gt ga P) (hn : P.length < 256) (k1 s1 m1 k2 s2 m2 : Int) {n : Nat} (hgt : n ≤ gt) (hga : n ≤ ga) (hW : n ≤ W.heap.size) :
    Calls Try.prog 41 #[.agg #[.int .i64 k1, .int .i64 s1, .int .i64 m1], .agg #[.int .i64 k2, .int .i64 s2, .int .i64 m2], .pointer (some ⟨gt, 0, none⟩), .pointer (some ⟨ga, 0, none⟩)] W fun e w' => e = .returned (.tuple #[]) ∧ TB w' gt ga (P ++ [((k1, s1, m1), (k2, s2, m2))]) ∧ Below n W w' := by
  have hba := ((Below.refl W.heap.size W).alloc (Nat.le_refl _) (.cells #[.int .i64 k1, .int .i64 s1, .int .i64 m1] 24)).alloc (by simp) (.cells #[.int .i64 k2, .int .i64 s2, .int .i64 m2] 24)
  have hX := blk_alloc (blk_new W (.cells #[.int .i64 k1, .int .i64 s1, .int .i64 m1] 24)) (.cells #[.int .i64 k2, .int .i64 s2, .int .i64 m2] 24)
  have hY := blk_new (W.alloc (.cells #[.int .i64 k1, .int .i64 s1, .int .i64 m1] 24)) (.cells #[.int .i64 k2, .int .i64 s2, .int .i64 m2] 24)
  obtain ⟨W2, hW2⟩ : ∃ v, (W.alloc (.cells #[.int .i64 k1, .int .i64 s1, .int .i64 m1] 24)).alloc (.cells #[.int .i64 k2, .int .i64 s2, .int .i64 m2] 24) = v := ⟨_, rfl⟩
  rw [World.size_alloc] at hY
  rw [hW2] at hba hX hY
  have hT := h.below hba
  obtain ⟨t1, t2, t3, t4, t5⟩ := hT.store hn ((k1, s1, m1), (k2, s2, m2)) hgt hga
  have HW2 := Hd.mk hW2
  have HB := Hd.mk (hba.mono hW)
  have hsz := hba.size
  have HT := Hd.mk hT
  have ca := blk_cell hT.a 0
  simp at ca
  obtain ⟨i, hi⟩ : ∃ i, P.length = i := ⟨_, rfl⟩
  have HI := Hd.mk hi
  have HP := Hd.mk (And.intro t4 t5)
  rw [hi] at ca t1 t2 t3 hn HP
  clear hW2 hba hT h t4 t5 hi
  have h0 : decide ((0 : Int) ≤ (i : Int)) = true := decide_eq_true (by omega)
  have h1 : decide ((i : Int) < 256) = true := decide_eq_true (by omega)
  have HS := Hd.mk (And.intro t1 (And.intro t2 t3))
  clear t1 t2 t3
  have x0 := blk_cell hX 0
  have x1 := blk_cell hX 1
  have x2 := blk_cell hX 2
  have y0 := blk_cell hY 0
  have y1 := blk_cell hY 1
  have y2 := blk_cell hY 2
  simp at x0 x1 x2 y0 y1 y2
  go_enter Try.func41, Try.ntmps41
  go_upto_region 1 with fail
  rw [HW2.out]
  clear HW2
  have ht1 := HS.out.1
  have hone : (#[Value.int .i64 k1, .int .i64 s1, .int .i64 m1, .int .i64 k2, .int .i64 s2, .int .i64 m2] : Array Value).all (·.oneCell') = true := by simp [Value.oneCell']
  obtain ⟨W3, hW3⟩ : ∃ v, W2.setCells gt (i * 6) (#[Value.int .i64 k1, .int .i64 s1, .int .i64 m1, .int .i64 k2, .int .i64 s2, .int .i64 m2] : Array Value).toList = v := ⟨_, rfl⟩
  have HW3 := Hd.mk hW3
  have hc2 : W3.cell? ⟨ga, 0, none⟩ = some (.int .i64 i) := by rw [← hW3]; exact HS.out.2.1
  have hf2 : W3.frozen? ⟨ga, 0, none⟩ = false := by rw [← hW3]; exact HS.out.2.2
  have HE : Hd (TB (W3.setCell ⟨ga, 0, none⟩ (.int .i64 ((i : Int) + 1))) gt ga (P ++ [((k1, s1, m1), k2, s2, m2)]) ∧ Below n W2 (W3.setCell ⟨ga, 0, none⟩ (.int .i64 ((i : Int) + 1)))) := ⟨by rw [← hW3]; exact HP.out⟩
  have hwi : i ≤ 256 := by omega
  clear hW3 HP HS HT
  go_wp2_with (first | (refine wpList_store_mid rfl 25 _ _ rfl gt (i * 6) #[.int .i64 k1, .int .i64 s1, .int .i64 m1, .int .i64 k2, .int .i64 s2, .int .i64 m2] rfl rfl ht1 info25 hone ?_; rw [HW3.out]) | fail)
  go_end0
  exact ⟨rfl, HE.out.1, HB.out.trans HE.out.2⟩
end Go.Proofs.Ytmfnjmecnhagmaa
