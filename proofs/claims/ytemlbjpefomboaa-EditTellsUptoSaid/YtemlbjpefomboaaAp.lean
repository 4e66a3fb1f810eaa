/- My own words for append, make and what is owned, beside the kit's. -/
import Derived.Test.YtemlbjpefomboaaM
import Derived.Maps.AppendAt
import Derived.OwnWalk
import Derived.Laws.OwnMore
import Derived.Laws.MakeOwn
namespace Go.Proofs.Ytemlbjpefomboaa
open Go.RowKit Go.Proofs.YtemlbjpefomboaaW.PrintWords Go.Proofs.YtemlbjpefomboaaW.PrintLast Go.Proofs.YtemlbjpefomboaaW.PrintMore
set_option linter.unusedVariables false

/-- A slice type t of elements e. -/
structure Elt (P : Program) (t e : TypeId) (z : Value) (size bytes : Nat) : Prop where
  ht : P.underlying t = some (.slice e)
  hi : (P.info? e).map (fun i => (i.zero, i.size, i.bytes)) = some (some z, size, bytes)
  hz : z.cells.size = size
  hs : 0 < size
  hb : 0 < bytes

/-- What stands at A: these cells. -/
def Src (w : World) (A : Option Addr) (m size : Nat) (news : List Value) : Prop :=
  news.length = m * size ∧ (∀ j u, news[j]? = some u → ∃ ad, A = some ad ∧ w.cell? (ad.add j) = some u) ∧ ∀ u ∈ news, u.oneCell' = true

theorem nums_one (k : IntKind) (xs : List Int) : ∀ u ∈ nums k xs, u.oneCell' = true := ints_oneCell k xs
theorem Src.of_C {k : IntKind} {w : World} {A : Option Addr} {n : Nat} {xs : List Int} (h : (Kd.int k).C w A n xs) : Src w A n 1 (nums k xs) := by
  refine ⟨by rw [nums_length, h.1, Nat.mul_one], fun j u hj => ?_, nums_one k xs⟩
  have hl : j < n := by
    have := (List.getElem?_eq_some_iff.1 hj).1
    rwa [nums_length, h.1] at this
  obtain ⟨ad, e, hc⟩ := Kd.at_int h (j : Int) (by omega) (by omega)
  refine ⟨ad, e, ?_⟩
  rw [Int.toNat_natCast] at hc
  rw [hc]
  have hx : j < xs.length := by rw [h.1]; exact hl
  simp [nums, hx] at hj
  rw [← hj]
  simp [rd, hx]
theorem Src.one (w : World) (u : Value) (t : TypeId) (h : u.oneCell' = true) : Src (w.alloc (.cells #[u] t)) (some ⟨w.heap.size, 0, none⟩) 1 1 [u] :=
  ⟨rfl, fun j x hj => ⟨_, rfl, cell_one_new w u t j x hj⟩, fun x hx => by rw [List.mem_singleton.1 hx]; exact h⟩
theorem Src.lit (w : World) (us : List Value) (t : TypeId) (n : Nat) (hn : us.length = n) (h : ∀ u ∈ us, u.oneCell' = true) : Src (w.alloc (.cells us.toArray t)) (some ⟨w.heap.size, 0, none⟩) n 1 us := by
  refine ⟨by rw [hn, Nat.mul_one], fun j x hj => ⟨_, rfl, ?_⟩, h⟩
  rw [add_plain, blk_cell (blk_new w _)]
  simpa using hj
theorem Src.nil (w : World) (A : Option Addr) (size : Nat) : Src w A 0 size [] := ⟨by simp, fun j u h => by simp at h, fun u h => by simp at h⟩

theorem growBy_le (need : Nat) : ∀ (r c : Nat), c ≤ need + (need + 768) / 4 → Builtin.growBy need r c ≤ need + (need + 768) / 4
  | 0, c, h => h
  | r + 1, c, h => by
    unfold Builtin.growBy
    split
    · exact h
    · exact growBy_le need r _ (by omega)
theorem nsc_le {need old : Nat} (h : old < need) : Builtin.nextslicecap need old ≤ need + need / 4 + 704 := by
  unfold Builtin.nextslicecap
  split
  · omega
  · split
    · omega
    · have := growBy_le need 4 old (by omega)
      omega

/-- Where what append hands back lies: in the old row, or in the next block, and then the old row is as it was. -/
def Placed (w w' : World) (v v' : Value) (n n' : Nat) : Prop := (∃ A c, v = .slice A n c ∧ v' = .slice A n' c) ∨ (v'.ownBlock = some w.heap.size ∧ w.grownBy w' none)
theorem Placed.block {w w' : World} {v v' : Value} {n n' : Nat} (h : Placed w w' v v' n n') : v'.ownBlock = v.ownBlock ∨ v'.ownBlock = some w.heap.size := by
  rcases h with ⟨A, c, rfl, rfl⟩ | h
  · rcases A with _ | a <;> exact .inl rfl
  · exact .inr h.1
/-- append onto a row of the call's own, from whatever source. -/
theorem run_app {P : Program} (w : World) (base : Nat) (t ty e : TypeId) (z : Value) (size bytes : Nat) (E : Elt P t e z size bytes)
    (v : Value) (n : Nat) (xs : List Value) (hown : w.ownsRow base e size v n xs)
    (A : Option Addr) (m c : Nat) (news : List Value) (hsrc : Src w A m size news)
    (hfit : ((n + m) + (n + m) / 4 + 704) * bytes ≤ 281474976710656) (hbase : base ≤ w.heap.size) :
    ∃ v' w', (Builtin.append_ #[t, t] ty #[v, .slice A m c]).run P w = .ok v' w' ∧ w'.ownsRow base e size v' (n + m) (xs ++ news) ∧ w.grownBy w' v.ownBlock ∧
      Placed w w' v v' n (n + m) ∧ (v = .slice none 0 0 → m = 0 → v' = .slice none 0 0) := by
  obtain ⟨ht, hi0, hzs, hsz, hb0⟩ := E
  obtain ⟨i, hi, hz, hsize, hby⟩ := info_parts hi0
  obtain ⟨hl, hsr, h1⟩ := hsrc
  have hfit1 : n + m ≤ 281474976710656 := by
    have : ((n + m) + (n + m) / 4 + 704) * 1 ≤ ((n + m) + (n + m) / 4 + 704) * bytes := Nat.mul_le_mul_left _ hb0
    omega
  have hfit2 : (n + m) * bytes ≤ 281474976710656 := Nat.le_trans (Nat.mul_le_mul_right _ (by omega)) hfit
  have h63 : n + m ≤ maxLen := by simp only [maxLen]; omega
  rcases A with _ | a
  · have hnews : news = [] := by
      rcases news with _ | ⟨u, r⟩
      · rfl
      · obtain ⟨ad, h, _⟩ := hsr 0 u rfl
        cases h
    subst hnews
    have hm : m = 0 := by
      rcases Nat.eq_zero_or_pos m with h | h
      · exact h
      · have := Nat.mul_pos h hsz
        simp at hl
        omega
    subst hm
    have hp : Placed w w v v n (n + 0) := by
      rcases hown.2 with ⟨rfl, rfl⟩ | ⟨g, cap, cur, rfl, _⟩
      · exact .inl ⟨none, 0, rfl, rfl⟩
      · exact .inl ⟨_, cap, rfl, rfl⟩
    refine ⟨v, w, ?_, by simpa using hown, World.grownBy.refl _ _, hp, fun h _ => h⟩
    rcases hown.2 with ⟨rfl, rfl⟩ | ⟨g, cap, cur, rfl, _, _, hnc, _⟩
    · simp [Builtin.append_, run_underlying ht, sizeOf, typeInfo, hi, Builtin.lenOf, Builtin.firstCells]
    · simp [Builtin.append_, run_underlying ht, sizeOf, typeInfo, hi, Builtin.lenOf, Builtin.firstCells, hnc, storeCells]
  · have hnews : ∀ j u, news[j]? = some u → w.cell? (a.add j) = some u := fun j u h => by
      obtain ⟨ad, e, hc⟩ := hsr j u h
      cases e
      exact hc
    subst hsize
    subst hby
    have hlen : (xs ++ news).length = (n + m) * i.size := by rw [List.length_append, hown.1, hl, Nat.add_mul]
    have grown : ∀ (old : Nat), old < n + m → ∀ (row : Option Nat),
        (w.drew.alloc (.cells (xs.toArray ++ news.toArray ++ Builtin.zeroCells z.cells (grownCap w (n + m) old e - (n + m))) e)).ownsRow base e i.size
          (.slice (some ⟨w.heap.size, 0, none⟩) (n + m) (grownCap w (n + m) old e)) (n + m) (xs ++ news) ∧
        w.grownBy (w.drew.alloc (.cells (xs.toArray ++ news.toArray ++ Builtin.zeroCells z.cells (grownCap w (n + m) old e - (n + m))) e)) row := by
      intro old ho row
      have hge := grownCap_ge w (n + m) old e
      have hcm : grownCap w (n + m) old e ≤ maxLen := grownCap_le_maxLen w (n + m) old e h63
      refine ⟨⟨hlen, .inr ⟨w.heap.size, _, _, rfl, hbase, heap_alloc_new w.drew _, hge, hcm, ?_, ?_⟩⟩, ⟨rfl, rfl, rfl, by simp, fun k hk _ => Below.heap_alloc w.drew _ k hk⟩⟩
      · simp only [Array.size_append, List.size_toArray, size_zeroCells, hzs, hown.1, hl, ← Nat.add_mul]
        congr 1
        omega
      · simp only [Array.toList_append, List.append_assoc]
        rw [← List.append_assoc, ← hlen]
        exact List.take_left
    rcases hown.2 with ⟨rfl, rfl⟩ | ⟨g, cap, cur, rfl, hbg, hg, hnc, hcm, hcs, htake⟩
    · have hx : xs = [] := List.eq_nil_of_length_eq_zero (by simpa using hown.1)
      subst hx
      by_cases hm : m = 0
      · subst hm
        have hn : news = [] := List.eq_nil_of_length_eq_zero (by simpa using hl)
        subst hn
        refine ⟨.slice none 0 0, w, ?_, World.ownsRow_nil w base e i.size, ⟨rfl, rfl, rfl, Nat.le_refl _, fun _ _ _ => rfl⟩, Or.inl ⟨none, 0, rfl, rfl⟩, fun _ _ => rfl⟩
        simp [Builtin.append_, run_underlying ht, sizeOf, typeInfo, hi, Builtin.lenOf, Builtin.firstCells, loadCells, loadCellsFrom]
      · have hr := run_append_nil (P := P) w t ty e i z ht hi hz a m c news hl hnews (by omega) (by omega) (by simpa using hfit2)
        have hgr := grown 0 (by omega) (Value.ownBlock (.slice none 0 0))
        simp only [Nat.zero_add, List.nil_append, Array.empty_append] at hgr ⊢
        exact ⟨_, _, hr, hgr.1, hgr.2, Or.inr ⟨rfl, hgr.2⟩, fun _ h => absurd h hm⟩
    · by_cases hroom : n + m ≤ cap
      · have hfit : n * i.size + news.length ≤ cur.size := by rw [hl, hcs, ← Nat.add_mul]; exact Nat.mul_le_mul_right _ hroom
        have hr := run_append_room (P := P) w t ty e i ht hi g n cap cur hg a m c news hl hnews h1 hroom hfit
        refine ⟨_, _, hr, ⟨hlen, .inr ⟨g, cap, _, rfl, hbg, setRow_heap w g cur _ e _ hg, hroom, hcm, ?_, ?_⟩⟩, ⟨rfl, rfl, rfl, by simp, fun k _ hk => setRow_other w g k _ (fun e => hk (by simp [Value.ownBlock, e]))⟩, Or.inl ⟨_, cap, rfl, rfl⟩, fun h _ => by cases h⟩
        · simp only [List.size_toArray, List.length_append, List.length_take, List.length_drop, Array.length_toList]
          omega
        · rw [htake, ← hlen]
          exact List.take_left
      · have holds : ∀ j u, xs[j]? = some u → w.cell? ((⟨g, 0, none⟩ : Addr).add j) = some u := hown.cells (g := g) rfl
        have hr := run_append_grow (P := P) w t ty e i z ht hi hz ⟨g, 0, none⟩ n cap xs hown.1 holds a m c news hl hnews (by omega) (by omega) (Nat.le_trans (Nat.mul_le_mul_right _ (nsc_le (by omega))) hfit)
        have hgr := fun row => grown cap (by omega) row
        exact ⟨_, _, hr, (hgr none).1, (hgr _).2, Or.inr ⟨rfl, (hgr none).2⟩, fun h _ => by cases h⟩

/-- The same at the operation. -/
theorem wpList_app {P : Program} {w : World} {ops : Array Oper} {rest : List Oper} {o : Oper} {a : Act} {Q : Exit → Act → World → Prop} (hgd : o.guard = none) (s x : Operand) (t : TypeId)
    (ho : o.op = .call { callee := .builtin .append, args := #[s, x], argTypes := #[t, t] })
    (base : Nat) {e : TypeId} {z : Value} {size bytes : Nat} (E : Elt P t e z size bytes)
    {v : Value} {n : Nat} {xs : List Value} {A : Option Addr} {m c : Nat} {news : List Value} (hs : a.eval s = v) (hx : a.eval x = .slice A m c) (hown : w.ownsRow base e size v n xs) (hsrc : Src w A m size news)
    (hfit : ((n + m) + (n + m) / 4 + 704) * bytes ≤ 281474976710656) (hbase : base ≤ w.heap.size)
    (h : ∀ v' w', Hd (w'.ownsRow base e size v' (n + m) (xs ++ news)) → Hd (w.grownBy w' v.ownBlock) → Hd (Placed w w' v v' n (n + m)) → Hd (v = .slice none 0 0 → m = 0 → v' = .slice none 0 0) → wpList P ops Q rest (a.put o.dst v') w') :
    wpList P ops Q (o :: rest) a w := by
  refine wpList_plain hgd fun K hK => ?_
  obtain ⟨v', w', hr, h2, h3, h4, h5⟩ := run_app (P := P) w base t o.type e z size bytes E v n xs hown A m c news hsrc hfit hbase
  unfold Oper.wp execOp
  simp only [ho, resolve, invoke, builtin, Sem.run_bind, Sem.run_pure, Result.andThen_ok, List.map_toArray, List.map_cons, List.map_nil, hs, hx, hr]
  exact hK _ _ (h v' w' ⟨h2⟩ ⟨h3⟩ ⟨h4⟩ ⟨h5⟩)

theorem Upd.of_app {S : Nat → Prop} {w0 w w' : World} {v : Value} (h : Upd S w0 w) (hg : w.grownBy w' v.ownBlock) (hs : ∀ k, v.ownBlock = some k → S k ∨ w0.heap.size ≤ k) : Upd S w0 w' := by
  refine ⟨hg.os.trans h.os, hg.tape.trans h.tape, hg.output.trans h.output, Nat.le_trans h.size hg.size, fun k hk hn => ?_⟩
  refine (hg.block k (Nat.lt_of_lt_of_le hk h.size) (fun e => ?_)).trans (h.block k hk hn)
  rcases hs k e.symm with h1 | h1
  · exact hn h1
  · omega
/-- What is owned stays so while other blocks turn. -/
theorem own_upd {S : Nat → Prop} {w w1 : World} {base : Nat} {e : TypeId} {size n : Nat} {v : Value} {xs : List Value} (h : w.ownsRow base e size v n xs) (hu : Upd S w w1) (hn : ∀ k, v.ownBlock = some k → ¬ S k) : w1.ownsRow base e size v n xs :=
  own_move h (fun k hk => hu.block k (own_lt h k hk) (hn k hk))
end Go.Proofs.Ytemlbjpefomboaa
