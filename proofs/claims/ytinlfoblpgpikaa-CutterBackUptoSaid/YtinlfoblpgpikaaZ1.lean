/- My own words for worlds: a frame (which blocks may have turned), facts laid aside from the walk. ; My own words for append, make and what is owned, beside the kit's. ; FOR A PROOF OF AN '..UptoSaid':  -/
import Derived.Test.YtinlfoblpgpikaaProg
import Derived.WalkKit
import Derived.KernelRfl
import Derived.RowKit3
import Derived.Laws.BitsLemmas
import Derived.RegionTactic
import Derived.BigRegion
import Derived.Deep.QuietTactic
import Derived.BigQuiet
import Derived.Test.YtinlfoblpgpikaaW0
import Derived.Maps.AppendAt
import Derived.OwnWalk
import Derived.Laws.OwnMore
import Derived.Laws.MakeOwn
import Derived.Test.YtinlfoblpgpikaaRows
import Derived.Below
import Derived.Deep.Draws
import Derived.Deep.AppendLies
import Derived.Laws.BytesArg
import Derived.Deep.OwnRows
import Derived.Tactics
import Derived.Lib.ConvBytes
import Derived.Laws.Slices
import Derived.Deep.LoopGhost
import Derived.WideLaws
import Derived.Deep.DeepCutAuto
import Derived.Deep.CutBlock
import Derived.Deep.RegionHeld3
import Derived.Laws.Rows
import Derived.Lib.AppendStr
import Derived.ArgAppend
import Derived.Laws.IdiomCopy
import Derived.OrdersHeld
import Derived.RowKit
import Derived.RangeFuncNested
import Derived.RangeFuncLeaves
import Derived.RangeFuncCalls
import Derived.OrdersIn
namespace Go.Proofs.Ytinlfoblpgpikaa
open Go.RowKit Go.Proofs.YtinlfoblpgpikaaW.PrintWords Go.Proofs.YtinlfoblpgpikaaW.PrintLast Go.Proofs.YtinlfoblpgpikaaW.PrintMore

/-- A fact that the walk does not look into. -/
structure Hd (p : Prop) : Prop where
  out : p

/-- Of w's blocks only those of S may have turned; there may be new ones. -/
structure Upd (S : Nat → Prop) (w w' : World) : Prop where
  os : w'.os = w.os
  tape : w'.tape = w.tape
  output : w'.output = w.output
  size : w.heap.size ≤ w'.heap.size
  block : ∀ k, k < w.heap.size → ¬ S k → w'.heap[k]? = w.heap[k]?

theorem Upd.refl (S : Nat → Prop) (w : World) : Upd S w w := ⟨rfl, rfl, rfl, Nat.le_refl _, fun _ _ _ => rfl⟩
theorem Upd.trans {S S' : Nat → Prop} {a b c : World} (h : Upd S a b) (k : Upd S' b c) (hs : ∀ j, j < a.heap.size → S' j → S j) : Upd S a c :=
  ⟨k.os.trans h.os, k.tape.trans h.tape, k.output.trans h.output, Nat.le_trans h.size k.size, fun i hi hn => (k.block i (Nat.lt_of_lt_of_le hi h.size) (fun hj => hn (hs i hi hj))).trans (h.block i hi hn)⟩
theorem Upd.mono {S S' : Nat → Prop} {w w' : World} (h : Upd S w w') (hs : ∀ j, S j → S' j) : Upd S' w w' := ⟨h.os, h.tape, h.output, h.size, fun k hk hn => h.block k hk (fun hj => hn (hs k hj))⟩
theorem Upd.alloc {S : Nat → Prop} {a w : World} (h : Upd S a w) (o : Obj) : Upd S a (w.alloc o) :=
  ⟨h.os, h.tape, h.output, by have := h.size; simp; omega, fun k hk hn => (Below.heap_alloc w o k (Nat.lt_of_lt_of_le hk h.size)).trans (h.block k hk hn)⟩
theorem Upd.drew {S : Nat → Prop} {a w : World} (h : Upd S a w) : Upd S a w.drew := ⟨h.os, h.tape, h.output, h.size, h.block⟩
theorem Upd.drewN {S : Nat → Prop} {a w : World} (h : Upd S a w) (n : Nat) : Upd S a (w.drewN n) := ⟨h.os, h.tape, h.output, h.size, h.block⟩
theorem Upd.setCell {S : Nat → Prop} {a w : World} (h : Upd S a w) (p : Addr) (hp : S p.block ∨ a.heap.size ≤ p.block) (u : Value) : Upd S a (w.setCell p u) := by
  refine ⟨h.os, h.tape, h.output, by have := h.size; simpa [World.setCell] using this, fun k hk hn => ?_⟩
  have hne : k ≠ p.block := by
    rintro rfl
    rcases hp with hp | hp
    · exact hn hp
    · omega
  exact (Below.heap_setCell w p u k hne).trans (h.block k hk hn)
theorem Upd.of_below {S : Nat → Prop} {w w' : World} (h : Below w.heap.size w w') : Upd S w w' := ⟨h.os, h.tape, h.output, h.size, fun k hk _ => h.block k hk⟩
theorem Upd.below {S : Nat → Prop} {B : Nat} {w w' : World} (h : Upd S w w') (hB : B ≤ w.heap.size) (hs : ∀ k, k < B → ¬ S k) : Below B w w' := ⟨h.os, h.tape, h.output, h.size, fun k hk => h.block k (by omega) (hs k hk)⟩
theorem Upd.of_grown {S : Nat → Prop} {w w' : World} {row : Option Nat} (h : w.grownBy w' row) (hs : ∀ k, row = some k → S k) : Upd S w w' :=
  ⟨h.os, h.tape, h.output, h.size, fun k hk hn => h.block k hk (fun e => hn (hs k e.symm))⟩
theorem Upd.cell {S : Nat → Prop} {w w' : World} (h : Upd S w w') {p : Addr} {v : Value} (hc : w.cell? p = some v) (hn : ¬ S p.block) : w'.cell? p = some v :=
  (World.cell?_of_block (w := w) (h.block p.block (World.block_lt_of_cell? w p hc) hn)).trans hc
theorem Upd.blk {S : Nat → Prop} {w w' : World} (h : Upd S w w') {g : Nat} {o : Obj} (hb : w.heap[g]? = some o) (hn : ¬ S g) : w'.heap[g]? = some o :=
  (h.block g (blk_lt hb) hn).trans hb
end Go.Proofs.Ytinlfoblpgpikaa
namespace Go.Proofs.Ytinlfoblpgpikaa
open Go.RowKit Go.Proofs.YtinlfoblpgpikaaW.PrintWords Go.Proofs.YtinlfoblpgpikaaW.PrintLast Go.Proofs.YtinlfoblpgpikaaW.PrintMore
set_option linter.unusedVariables false

/-- A slice type t of elements e. -/
structure Elt (P : Program) (t e : TypeId) (z : Value) (size bytes : Nat) : Prop where
  ht : P.underlying t = some (.slice e)
  hi : (P.info? e).map (fun i => (i.zero, i.size, i.bytes)) = some (some z, size, bytes)
  hz : z.cells.size = size
  hs : 0 < size
  hb : 0 < bytes

/-- What stands at A: these cells. -/
def Src (w : World) (A : Option Addr) (m size : Nat) (news : List Value) : Prop :=
  news.length = m * size ∧ (∀ j u, news[j]? = some u → ∃ ad, A = some ad ∧ w.cell? (ad.add j) = some u) ∧ ∀ u ∈ news, u.oneCell' = true

theorem nums_one (k : IntKind) (xs : List Int) : ∀ u ∈ nums k xs, u.oneCell' = true := ints_oneCell k xs
theorem Src.of_C {k : IntKind} {w : World} {A : Option Addr} {n : Nat} {xs : List Int} (h : (Kd.int k).C w A n xs) : Src w A n 1 (nums k xs) := by
  refine ⟨by rw [nums_length, h.1, Nat.mul_one], fun j u hj => ?_, nums_one k xs⟩
  have hl : j < n := by
    have := (List.getElem?_eq_some_iff.1 hj).1
    rwa [nums_length, h.1] at this
  obtain ⟨ad, e, hc⟩ := Kd.at_int h (j : Int) (by omega) (by omega)
  refine ⟨ad, e, ?_⟩
  rw [Int.toNat_natCast] at hc
  rw [hc]
  have hx : j < xs.length := by rw [h.1]; exact hl
  simp [nums, hx] at hj
  rw [← hj]
  simp [rd, hx]
theorem Src.one (w : World) (u : Value) (t : TypeId) (h : u.oneCell' = true) : Src (w.alloc (.cells #[u] t)) (some ⟨w.heap.size, 0, none⟩) 1 1 [u] :=
  ⟨rfl, fun j x hj => ⟨_, rfl, cell_one_new w u t j x hj⟩, fun x hx => by rw [List.mem_singleton.1 hx]; exact h⟩
theorem Src.lit (w : World) (us : List Value) (t : TypeId) (n : Nat) (hn : us.length = n) (h : ∀ u ∈ us, u.oneCell' = true) : Src (w.alloc (.cells us.toArray t)) (some ⟨w.heap.size, 0, none⟩) n 1 us := by
  refine ⟨by rw [hn, Nat.mul_one], fun j x hj => ⟨_, rfl, ?_⟩, h⟩
  rw [add_plain, blk_cell (blk_new w _)]
  simpa using hj
theorem Src.nil (w : World) (A : Option Addr) (size : Nat) : Src w A 0 size [] := ⟨by simp, fun j u h => by simp at h, fun u h => by simp at h⟩

theorem growBy_le (need : Nat) : ∀ (r c : Nat), c ≤ need + (need + 768) / 4 → Builtin.growBy need r c ≤ need + (need + 768) / 4
  | 0, c, h => h
  | r + 1, c, h => by
    unfold Builtin.growBy
    split
    · exact h
    · exact growBy_le need r _ (by omega)
theorem nsc_le {need old : Nat} (h : old < need) : Builtin.nextslicecap need old ≤ need + need / 4 + 704 := by
  unfold Builtin.nextslicecap
  split
  · omega
  · split
    · omega
    · have := growBy_le need 4 old (by omega)
      omega

/-- Where what append hands back lies: in the old row, or in the next block, and then the old row is as it was. -/
def Placed (w w' : World) (v v' : Value) (n n' : Nat) : Prop := (∃ A c, v = .slice A n c ∧ v' = .slice A n' c) ∨ (v'.ownBlock = some w.heap.size ∧ w.grownBy w' none)
theorem Placed.block {w w' : World} {v v' : Value} {n n' : Nat} (h : Placed w w' v v' n n') : v'.ownBlock = v.ownBlock ∨ v'.ownBlock = some w.heap.size := by
  rcases h with ⟨A, c, rfl, rfl⟩ | h
  · rcases A with _ | a <;> exact .inl rfl
  · exact .inr h.1
/-- append onto a row of the call's own, from whatever source. -/
theorem run_app {P : Program} (w : World) (base : Nat) (t ty e : TypeId) (z : Value) (size bytes : Nat) (E : Elt P t e z size bytes)
    (v : Value) (n : Nat) (xs : List Value) (hown : w.ownsRow base e size v n xs)
    (A : Option Addr) (m c : Nat) (news : List Value) (hsrc : Src w A m size news)
    (hfit : ((n + m) + (n + m) / 4 + 704) * bytes ≤ 281474976710656) (hbase : base ≤ w.heap.size) :
    ∃ v' w', (Builtin.append_ #[t, t] ty #[v, .slice A m c]).run P w = .ok v' w' ∧ w'.ownsRow base e size v' (n + m) (xs ++ news) ∧ w.grownBy w' v.ownBlock ∧
      Placed w w' v v' n (n + m) ∧ (v = .slice none 0 0 → m = 0 → v' = .slice none 0 0) := by
  obtain ⟨ht, hi0, hzs, hsz, hb0⟩ := E
  obtain ⟨i, hi, hz, hsize, hby⟩ := info_parts hi0
  obtain ⟨hl, hsr, h1⟩ := hsrc
  have hfit1 : n + m ≤ 281474976710656 := by
    have : ((n + m) + (n + m) / 4 + 704) * 1 ≤ ((n + m) + (n + m) / 4 + 704) * bytes := Nat.mul_le_mul_left _ hb0
    omega
  have hfit2 : (n + m) * bytes ≤ 281474976710656 := Nat.le_trans (Nat.mul_le_mul_right _ (by omega)) hfit
  have h63 : n + m ≤ maxLen := by simp only [maxLen]; omega
  rcases A with _ | a
  · have hnews : news = [] := by
      rcases news with _ | ⟨u, r⟩
      · rfl
      · obtain ⟨ad, h, _⟩ := hsr 0 u rfl
        cases h
    subst hnews
    have hm : m = 0 := by
      rcases Nat.eq_zero_or_pos m with h | h
      · exact h
      · have := Nat.mul_pos h hsz
        simp at hl
        omega
    subst hm
    have hp : Placed w w v v n (n + 0) := by
      rcases hown.2 with ⟨rfl, rfl⟩ | ⟨g, cap, cur, rfl, _⟩
      · exact .inl ⟨none, 0, rfl, rfl⟩
      · exact .inl ⟨_, cap, rfl, rfl⟩
    refine ⟨v, w, ?_, by simpa using hown, World.grownBy.refl _ _, hp, fun h _ => h⟩
    rcases hown.2 with ⟨rfl, rfl⟩ | ⟨g, cap, cur, rfl, _, _, hnc, _⟩
    · simp [Builtin.append_, run_underlying ht, sizeOf, typeInfo, hi, Builtin.lenOf, Builtin.firstCells]
    · simp [Builtin.append_, run_underlying ht, sizeOf, typeInfo, hi, Builtin.lenOf, Builtin.firstCells, hnc, storeCells]
  · have hnews : ∀ j u, news[j]? = some u → w.cell? (a.add j) = some u := fun j u h => by
      obtain ⟨ad, e, hc⟩ := hsr j u h
      cases e
      exact hc
    subst hsize
    subst hby
    have hlen : (xs ++ news).length = (n + m) * i.size := by rw [List.length_append, hown.1, hl, Nat.add_mul]
    have grown : ∀ (old : Nat), old < n + m → ∀ (row : Option Nat),
        (w.drew.alloc (.cells (xs.toArray ++ news.toArray ++ Builtin.zeroCells z.cells (grownCap w (n + m) old e - (n + m))) e)).ownsRow base e i.size
          (.slice (some ⟨w.heap.size, 0, none⟩) (n + m) (grownCap w (n + m) old e)) (n + m) (xs ++ news) ∧
        w.grownBy (w.drew.alloc (.cells (xs.toArray ++ news.toArray ++ Builtin.zeroCells z.cells (grownCap w (n + m) old e - (n + m))) e)) row := by
      intro old ho row
      have hge := grownCap_ge w (n + m) old e
      have hcm : grownCap w (n + m) old e ≤ maxLen := grownCap_le_maxLen w (n + m) old e h63
      refine ⟨⟨hlen, .inr ⟨w.heap.size, _, _, rfl, hbase, heap_alloc_new w.drew _, hge, hcm, ?_, ?_⟩⟩, ⟨rfl, rfl, rfl, by simp, fun k hk _ => Below.heap_alloc w.drew _ k hk⟩⟩
      · simp only [Array.size_append, List.size_toArray, size_zeroCells, hzs, hown.1, hl, ← Nat.add_mul]
        congr 1
        omega
      · simp only [Array.toList_append, List.append_assoc]
        rw [← List.append_assoc, ← hlen]
        exact List.take_left
    rcases hown.2 with ⟨rfl, rfl⟩ | ⟨g, cap, cur, rfl, hbg, hg, hnc, hcm, hcs, htake⟩
    · have hx : xs = [] := List.eq_nil_of_length_eq_zero (by simpa using hown.1)
      subst hx
      by_cases hm : m = 0
      · subst hm
        have hn : news = [] := List.eq_nil_of_length_eq_zero (by simpa using hl)
        subst hn
        refine ⟨.slice none 0 0, w, ?_, World.ownsRow_nil w base e i.size, ⟨rfl, rfl, rfl, Nat.le_refl _, fun _ _ _ => rfl⟩, Or.inl ⟨none, 0, rfl, rfl⟩, fun _ _ => rfl⟩
        simp [Builtin.append_, run_underlying ht, sizeOf, typeInfo, hi, Builtin.lenOf, Builtin.firstCells, loadCells, loadCellsFrom]
      · have hr := run_append_nil (P := P) w t ty e i z ht hi hz a m c news hl hnews (by omega) (by omega) (by simpa using hfit2)
        have hgr := grown 0 (by omega) (Value.ownBlock (.slice none 0 0))
        simp only [Nat.zero_add, List.nil_append, Array.empty_append] at hgr ⊢
        exact ⟨_, _, hr, hgr.1, hgr.2, Or.inr ⟨rfl, hgr.2⟩, fun _ h => absurd h hm⟩
    · by_cases hroom : n + m ≤ cap
      · have hfit : n * i.size + news.length ≤ cur.size := by rw [hl, hcs, ← Nat.add_mul]; exact Nat.mul_le_mul_right _ hroom
        have hr := run_append_room (P := P) w t ty e i ht hi g n cap cur hg a m c news hl hnews h1 hroom hfit
        refine ⟨_, _, hr, ⟨hlen, .inr ⟨g, cap, _, rfl, hbg, setRow_heap w g cur _ e _ hg, hroom, hcm, ?_, ?_⟩⟩, ⟨rfl, rfl, rfl, by simp, fun k _ hk => setRow_other w g k _ (fun e => hk (by simp [Value.ownBlock, e]))⟩, Or.inl ⟨_, cap, rfl, rfl⟩, fun h _ => by cases h⟩
        · simp only [List.size_toArray, List.length_append, List.length_take, List.length_drop, Array.length_toList]
          omega
        · rw [htake, ← hlen]
          exact List.take_left
      · have holds : ∀ j u, xs[j]? = some u → w.cell? ((⟨g, 0, none⟩ : Addr).add j) = some u := hown.cells (g := g) rfl
        have hr := run_append_grow (P := P) w t ty e i z ht hi hz ⟨g, 0, none⟩ n cap xs hown.1 holds a m c news hl hnews (by omega) (by omega) (Nat.le_trans (Nat.mul_le_mul_right _ (nsc_le (by omega))) hfit)
        have hgr := fun row => grown cap (by omega) row
        exact ⟨_, _, hr, (hgr none).1, (hgr _).2, Or.inr ⟨rfl, (hgr none).2⟩, fun h _ => by cases h⟩

/-- What is owned stays so while other blocks turn. -/
theorem own_upd {S : Nat → Prop} {w w1 : World} {base : Nat} {e : TypeId} {size n : Nat} {v : Value} {xs : List Value} (h : w.ownsRow base e size v n xs) (hu : Upd S w w1) (hn : ∀ k, v.ownBlock = some k → ¬ S k) : w1.ownsRow base e size v n xs :=
  own_move h (fun k hk => hu.block k (own_lt h k hk) (hn k hk))
end Go.Proofs.Ytinlfoblpgpikaa
namespace Go.Proofs.Ytinlfoblpgpikaa.bulks

theorem one_le {H : Type} (d : DataW H) : 1 ≤ Rows.uptoBulk d := by
  cases d with
  | lit l => cases l <;> simp [Rows.uptoBulk]
  | nil => simp [Rows.uptoBulk]
  | ptr d => simp [Rows.uptoBulk]
  | slice elems spare => simp [Rows.uptoBulk]
  | agg parts => simp [Rows.uptoBulk]
  | iface t d => simp [Rows.uptoBulk]
  | map entries => simp [Rows.uptoBulk]
  | held h => simp [Rows.uptoBulk]

theorem append {H : Type} (l r : List (DataW H)) : Rows.uptoBulkAll (l ++ r) = Rows.uptoBulkAll l + Rows.uptoBulkAll r := by
  induction l with
  | nil => simp [Rows.uptoBulkAll]
  | cons x l ih => simp only [List.cons_append, Rows.uptoBulkAll, ih]; omega

/-- so many values at the most -/
theorem length_le {H : Type} (l : List (DataW H)) : l.length ≤ Rows.uptoBulkAll l := by
  induction l with
  | nil => simp [Rows.uptoBulkAll]
  | cons x r ih => have := one_le x; simp only [Rows.uptoBulkAll, List.length_cons]; omega

/-- a slice's places, and what they hold -/
theorem slice_le {H : Type} (elems spare : List (DataW H)) : elems.length + spare.length + 1 ≤ Rows.uptoBulk (.slice elems spare) := by
  have h1 := length_le elems
  have h2 := length_le spare
  simp only [Rows.uptoBulk]
  omega
/-- THE BOUND, as the builder hands it over ('hk') -/
theorem bound {H : Type} {l : List (DataW H)} (hk : Rows.uptoSmall H l = true) : Rows.uptoBulkAll l ≤ 1048576 := by
  simpa [Rows.uptoSmall] using hk

/-- ROOM: a slice of n elements of b bytes, grown by append: below the 2^48 bytes that append, make and a Builder bear. Here n up to 2^21, b up to 4,096: put your own numbers. -/
theorem room {n b : Nat} (hn : n ≤ 2097152) (hb : b ≤ 4096) : (n + n / 4 + 192) * b ≤ 281474976710656 := by
  have h : (n + n / 4 + 192) * b ≤ 2621632 * 4096 := Nat.mul_le_mul (by omega) hb
  omega

end Go.Proofs.Ytinlfoblpgpikaa.bulks
namespace Go.Proofs.Ytinlfoblpgpikaa.Pr
open Go.RowKit Go.Proofs.YtinlfoblpgpikaaW.PrintWords Go.Proofs.YtinlfoblpgpikaaW.PrintLast Go.Proofs.YtinlfoblpgpikaaW.PrintMore
section
attribute [local go_sem] max2_int min2_int max_two min_two max_three min_three max_four min_four   -- for this text's walks alone
set_option linter.unusedVariables false
set_option linter.unusedSimpArgs false



def errW : Option Int → Value
  | none => .nilIface
  | some c => .iface 0 (.int .i64 c)
theorem errW_none : errW none = .nilIface := rfl
theorem errW_some (c : Int) : errW (some c) = .iface 0 (.int .i64 c) := rfl

theorem info5 : (Try.prog.info? 5).map (fun i => (i.zero, i.size, i.bytes)) = some (some (.int .u8 0), 1, 1) := by kernel_rfl
theorem info81 : (Try.prog.info? 81).map (fun i => (i.zero, i.size, i.bytes)) = some (some (.agg #[(.int .i64 0), (.int .i64 0), (.int .i64 0)]), 3, 24) := by kernel_rfl
theorem info82 : (Try.prog.info? 82).map (fun i => (i.zero, i.size, i.bytes)) = some (some (.agg #[(.int .i64 0), (.int .i64 0), (.int .i64 0)]), 3, 24) := by kernel_rfl
-- the values' own types
/-! #### struct type 82 -/
structure S82 where
  f0 : Int
  f1 : Int
  f2 : Int
def z82 : S82 := ⟨(0 : Int), (0 : Int), (0 : Int)⟩
def k82 : Kd S82 := Kd.iso (Kd.pair (Kd.int .i64) (Kd.pair (Kd.int .i64) (Kd.int .i64))) (fun x : S82 => (x.f0, x.f1, x.f2))
theorem k82_open {w : World} {x : S82} {cs : List Value} (h : k82.K w x cs) : cs = [.int .i64 x.f0, .int .i64 x.f1, .int .i64 x.f2] := by
  obtain ⟨_, _, rfl, rfl, ⟨_, _, rfl, rfl, rfl⟩⟩ := h
  exact rfl
theorem k82_openM {w : World} {base : Nat} {ok : Nat → Prop} {x : S82} {cs : List Value} (h : k82.M w base ok x cs) : cs = [.int .i64 x.f0, .int .i64 x.f1, .int .i64 x.f2] := by
  obtain ⟨_, _, rfl, rfl, ⟨_, _, rfl, rfl, rfl⟩⟩ := h
  exact rfl
theorem k82_mk (w : World) (x : S82)  : k82.K w x [.int .i64 x.f0, .int .i64 x.f1, .int .i64 x.f2] := ⟨[.int .i64 x.f0], [.int .i64 x.f1, .int .i64 x.f2], rfl, rfl, ⟨[.int .i64 x.f1], [.int .i64 x.f2], rfl, rfl, rfl⟩⟩
theorem k82_mkM (w : World) (base : Nat) (ok : Nat → Prop) (x : S82)  : k82.M w base ok x [.int .i64 x.f0, .int .i64 x.f1, .int .i64 x.f2] := ⟨[.int .i64 x.f0], [.int .i64 x.f1, .int .i64 x.f2], rfl, rfl, ⟨[.int .i64 x.f1], [.int .i64 x.f2], rfl, rfl, rfl⟩⟩
def rd_T82 (xs : List S82) (i : Int) : S82 := xs.getD i.toNat z82
theorem at_T82 {w : World} {A : Option Addr} {n : Nat} {xs : List S82} (h : Kd.C k82 w A n xs) (i : Int) (h0 : 0 ≤ i) (h1 : i < n) : ∃ ad , A = some ad ∧ w.cell? (ad.add (i.toNat * 3)) = some (.int .i64 (rd_T82 xs i).f0) ∧ w.cell? ⟨(ad.add (i.toNat * 3)).block, (ad.add (i.toNat * 3)).off + 1, none⟩ = some (.int .i64 (rd_T82 xs i).f1) ∧ w.cell? ⟨(ad.add (i.toNat * 3)).block, (ad.add (i.toNat * 3)).off + 2, none⟩ = some (.int .i64 (rd_T82 xs i).f2) := by
  obtain ⟨ad, c, e, _, hK, hc0⟩ := Kd.C_get h z82 i h0 h1
  have hc : ∀ j u, c[j]? = some u → w.cell? (ad.add (i.toNat * 3 + j)) = some u := hc0
  obtain rfl := k82_open hK
  exact ⟨ad, e, hc 0 _ rfl, by rw [← add_field _ _ 1 (by omega)]; exact hc 1 _ rfl, by rw [← add_field _ _ 2 (by omega)]; exact hc 2 _ rfl⟩

/-! #### struct type 81 -/
structure S81 where
  f0 : Int
  f1 : Int
  f2 : Int
def z81 : S81 := ⟨(0 : Int), (0 : Int), (0 : Int)⟩
def k81 : Kd S81 := Kd.iso (Kd.pair (Kd.int .i64) (Kd.pair (Kd.int .i64) (Kd.int .i64))) (fun x : S81 => (x.f0, x.f1, x.f2))
theorem k81_open {w : World} {x : S81} {cs : List Value} (h : k81.K w x cs) : cs = [.int .i64 x.f0, .int .i64 x.f1, .int .i64 x.f2] := by
  obtain ⟨_, _, rfl, rfl, ⟨_, _, rfl, rfl, rfl⟩⟩ := h
  exact rfl
theorem k81_openM {w : World} {base : Nat} {ok : Nat → Prop} {x : S81} {cs : List Value} (h : k81.M w base ok x cs) : cs = [.int .i64 x.f0, .int .i64 x.f1, .int .i64 x.f2] := by
  obtain ⟨_, _, rfl, rfl, ⟨_, _, rfl, rfl, rfl⟩⟩ := h
  exact rfl
theorem k81_mk (w : World) (x : S81)  : k81.K w x [.int .i64 x.f0, .int .i64 x.f1, .int .i64 x.f2] := ⟨[.int .i64 x.f0], [.int .i64 x.f1, .int .i64 x.f2], rfl, rfl, ⟨[.int .i64 x.f1], [.int .i64 x.f2], rfl, rfl, rfl⟩⟩
theorem k81_mkM (w : World) (base : Nat) (ok : Nat → Prop) (x : S81)  : k81.M w base ok x [.int .i64 x.f0, .int .i64 x.f1, .int .i64 x.f2] := ⟨[.int .i64 x.f0], [.int .i64 x.f1, .int .i64 x.f2], rfl, rfl, ⟨[.int .i64 x.f1], [.int .i64 x.f2], rfl, rfl, rfl⟩⟩
def rd_T81 (xs : List S81) (i : Int) : S81 := xs.getD i.toNat z81
theorem at_T81 {w : World} {A : Option Addr} {n : Nat} {xs : List S81} (h : Kd.C k81 w A n xs) (i : Int) (h0 : 0 ≤ i) (h1 : i < n) : ∃ ad , A = some ad ∧ w.cell? (ad.add (i.toNat * 3)) = some (.int .i64 (rd_T81 xs i).f0) ∧ w.cell? ⟨(ad.add (i.toNat * 3)).block, (ad.add (i.toNat * 3)).off + 1, none⟩ = some (.int .i64 (rd_T81 xs i).f1) ∧ w.cell? ⟨(ad.add (i.toNat * 3)).block, (ad.add (i.toNat * 3)).off + 2, none⟩ = some (.int .i64 (rd_T81 xs i).f2) := by
  obtain ⟨ad, c, e, _, hK, hc0⟩ := Kd.C_get h z81 i h0 h1
  have hc : ∀ j u, c[j]? = some u → w.cell? (ad.add (i.toNat * 3 + j)) = some u := hc0
  obtain rfl := k81_open hK
  exact ⟨ad, e, hc 0 _ rfl, by rw [← add_field _ _ 1 (by omega)]; exact hc 1 _ rfl, by rw [← add_field _ _ 2 (by omega)]; exact hc 2 _ rfl⟩

/-! #### struct type 29 -/
structure S29 where
  f0 : (List S82)
  f1 : (List Int)
  f2 : (List Int)
def z29 : S29 := ⟨([] : List S82), ([] : List Int), ([] : List Int)⟩
def k29 : Kd S29 := Kd.iso (Kd.pair (Kd.slice 82 k82) (Kd.pair (Kd.slice 5 (Kd.int .u8)) (Kd.slice 5 (Kd.int .u8)))) (fun x : S29 => (x.f0, x.f1, x.f2))
theorem k29_open {w : World} {x : S29} {cs : List Value} (h : k29.K w x cs) : ∃ A0 c0 A1 c1 A2 c2, cs = [.slice A0 x.f0.length c0, .slice A1 x.f1.length c1, .slice A2 x.f2.length c2] ∧ x.f0.length ≤ c0 ∧ k82.C w A0 x.f0.length x.f0 ∧ x.f1.length ≤ c1 ∧ (Kd.int .u8).C w A1 x.f1.length x.f1 ∧ x.f2.length ≤ c2 ∧ (Kd.int .u8).C w A2 x.f2.length x.f2 := by
  obtain ⟨_, _, rfl, ⟨A0, c0, rfl, l0, g0⟩, ⟨_, _, rfl, ⟨A1, c1, rfl, l1, g1⟩, ⟨A2, c2, rfl, l2, g2⟩⟩⟩ := h
  exact ⟨A0, c0, A1, c1, A2, c2, rfl, l0, g0, l1, g1, l2, g2⟩
theorem k29_mk (w : World) (x : S29) {A0 : Option Addr} {c0 : Nat} (l0 : x.f0.length ≤ c0) (g0 : k82.C w A0 x.f0.length x.f0) {A1 : Option Addr} {c1 : Nat} (l1 : x.f1.length ≤ c1) (g1 : (Kd.int .u8).C w A1 x.f1.length x.f1) {A2 : Option Addr} {c2 : Nat} (l2 : x.f2.length ≤ c2) (g2 : (Kd.int .u8).C w A2 x.f2.length x.f2) : k29.K w x [.slice A0 x.f0.length c0, .slice A1 x.f1.length c1, .slice A2 x.f2.length c2] := ⟨[.slice A0 x.f0.length c0], [.slice A1 x.f1.length c1, .slice A2 x.f2.length c2], rfl, ⟨A0, c0, rfl, l0, g0⟩, ⟨[.slice A1 x.f1.length c1], [.slice A2 x.f2.length c2], rfl, ⟨A1, c1, rfl, l1, g1⟩, ⟨A2, c2, rfl, l2, g2⟩⟩⟩
/-! #### struct type 43 -/
structure S43 where
  f0 : Int
  f1 : S29
def z43 : S43 := ⟨(0 : Int), z29⟩
def k43 : Kd S43 := Kd.iso (Kd.pair (Kd.int .i64) k29) (fun x : S43 => (x.f0, x.f1))
theorem k43_open {w : World} {x : S43} {cs : List Value} (h : k43.K w x cs) : ∃ A1 c1 A2 c2 A3 c3, cs = [.int .i64 x.f0, .slice A1 x.f1.f0.length c1, .slice A2 x.f1.f1.length c2, .slice A3 x.f1.f2.length c3] ∧ x.f1.f0.length ≤ c1 ∧ k82.C w A1 x.f1.f0.length x.f1.f0 ∧ x.f1.f1.length ≤ c2 ∧ (Kd.int .u8).C w A2 x.f1.f1.length x.f1.f1 ∧ x.f1.f2.length ≤ c3 ∧ (Kd.int .u8).C w A3 x.f1.f2.length x.f1.f2 := by
  obtain ⟨_, _, rfl, rfl, s1⟩ := h
  obtain ⟨A1, c1, A2, c2, A3, c3, rfl, l1, g1, l2, g2, l3, g3⟩ := k29_open s1
  exact ⟨A1, c1, A2, c2, A3, c3, rfl, l1, g1, l2, g2, l3, g3⟩
theorem k43_mk (w : World) (x : S43) {A1 : Option Addr} {c1 : Nat} (l1 : x.f1.f0.length ≤ c1) (g1 : k82.C w A1 x.f1.f0.length x.f1.f0) {A2 : Option Addr} {c2 : Nat} (l2 : x.f1.f1.length ≤ c2) (g2 : (Kd.int .u8).C w A2 x.f1.f1.length x.f1.f1) {A3 : Option Addr} {c3 : Nat} (l3 : x.f1.f2.length ≤ c3) (g3 : (Kd.int .u8).C w A3 x.f1.f2.length x.f1.f2) : k43.K w x [.int .i64 x.f0, .slice A1 x.f1.f0.length c1, .slice A2 x.f1.f1.length c2, .slice A3 x.f1.f2.length c3] := ⟨[.int .i64 x.f0], [.slice A1 x.f1.f0.length c1, .slice A2 x.f1.f1.length c2, .slice A3 x.f1.f2.length c3], rfl, rfl, (k29_mk w x.f1 l1 g1 l2 g2 l3 g3)⟩
def rd_T43 (xs : List S43) (i : Int) : S43 := xs.getD i.toNat z43
theorem at_T43 {w : World} {A : Option Addr} {n : Nat} {xs : List S43} (h : Kd.C k43 w A n xs) (i : Int) (h0 : 0 ≤ i) (h1 : i < n) : ∃ ad A1 c1 A2 c2 A3 c3, A = some ad ∧ w.cell? (ad.add (i.toNat * 4)) = some (.int .i64 (rd_T43 xs i).f0) ∧ w.cell? ⟨(ad.add (i.toNat * 4)).block, (ad.add (i.toNat * 4)).off + 1, none⟩ = some (.slice A1 (rd_T43 xs i).f1.f0.length c1) ∧ w.cell? ⟨(ad.add (i.toNat * 4)).block, (ad.add (i.toNat * 4)).off + 2, none⟩ = some (.slice A2 (rd_T43 xs i).f1.f1.length c2) ∧ w.cell? ⟨(ad.add (i.toNat * 4)).block, (ad.add (i.toNat * 4)).off + 3, none⟩ = some (.slice A3 (rd_T43 xs i).f1.f2.length c3) ∧ (rd_T43 xs i).f1.f0.length ≤ c1 ∧ k82.C w A1 (rd_T43 xs i).f1.f0.length (rd_T43 xs i).f1.f0 ∧ (rd_T43 xs i).f1.f1.length ≤ c2 ∧ (Kd.int .u8).C w A2 (rd_T43 xs i).f1.f1.length (rd_T43 xs i).f1.f1 ∧ (rd_T43 xs i).f1.f2.length ≤ c3 ∧ (Kd.int .u8).C w A3 (rd_T43 xs i).f1.f2.length (rd_T43 xs i).f1.f2 := by
  obtain ⟨ad, c, e, _, hK, hc0⟩ := Kd.C_get h z43 i h0 h1
  have hc : ∀ j u, c[j]? = some u → w.cell? (ad.add (i.toNat * 4 + j)) = some u := hc0
  obtain ⟨A1, c1, A2, c2, A3, c3, rfl, l1, g1, l2, g2, l3, g3⟩ := k43_open hK
  exact ⟨ad, A1, c1, A2, c2, A3, c3, e, hc 0 _ rfl, by rw [← add_field _ _ 1 (by omega)]; exact hc 1 _ rfl, by rw [← add_field _ _ 2 (by omega)]; exact hc 2 _ rfl, by rw [← add_field _ _ 3 (by omega)]; exact hc 3 _ rfl, l1, g1, l2, g2, l3, g3⟩

/-! #### struct type 26 -/
structure S26 where
  f0 : (List S81)
  f1 : (List Int)
  f2 : (List Int)
def k26 : Kd S26 := Kd.iso (Kd.pair (Kd.slice 81 k81) (Kd.pair (Kd.slice 5 (Kd.int .u8)) (Kd.slice 5 (Kd.int .u8)))) (fun x : S26 => (x.f0, x.f1, x.f2))
theorem k26_mkM (w : World) (base : Nat) (ok : Nat → Prop) (x : S26) {v0 : Value} (g0 : k81.R 81 w base ok v0 x.f0) {v1 : Value} (g1 : (Kd.int .u8).R 5 w base ok v1 x.f1) {v2 : Value} (g2 : (Kd.int .u8).R 5 w base ok v2 x.f2) : k26.M w base ok x [v0, v1, v2] := ⟨[v0], [v1, v2], rfl, ⟨v0, rfl, g0⟩, ⟨[v1], [v2], rfl, ⟨v1, rfl, g1⟩, ⟨v2, rfl, g2⟩⟩⟩
/-! #### struct type 45 -/
structure S45 where
  f0 : Int
  f1 : S26
def k45 : Kd S45 := Kd.iso (Kd.pair (Kd.int .i64) k26) (fun x : S45 => (x.f0, x.f1))
theorem k45_mkM (w : World) (base : Nat) (ok : Nat → Prop) (x : S45) {v1 : Value} (g1 : k81.R 81 w base ok v1 x.f1.f0) {v2 : Value} (g2 : (Kd.int .u8).R 5 w base ok v2 x.f1.f1) {v3 : Value} (g3 : (Kd.int .u8).R 5 w base ok v3 x.f1.f2) : k45.M w base ok x [.int .i64 x.f0, v1, v2, v3] := ⟨[.int .i64 x.f0], [v1, v2, v3], rfl, rfl, (k26_mkM w base ok x.f1 g1 g2 g3)⟩
theorem eqA81 (d : Nat) (w : World) (x0 y0 : Int) (x1 y1 : Int) (x2 y2 : Int) :
    (Op.equalIn (d + 2) 81 (.agg #[.int .i64 x0, .int .i64 x1, .int .i64 x2]) (.agg #[.int .i64 y0, .int .i64 y1, .int .i64 y2])).run Try.prog w = .ok (x0 == y0 && (x1 == y1 && (x2 == y2))) w := by
  refine eqA_of Try.underlying81 (by kernel_rfl) ?_
  refine eqf_cons (by rfl) (by go_simp; rfl) (by go_simp; rfl) (by go_simp) ?_
  refine eqf_cons (by rfl) (by go_simp; rfl) (by go_simp; rfl) (by go_simp) ?_
  exact eqf_last (by rfl) (by go_simp; rfl) (by go_simp; rfl) (by go_simp)

end
end Go.Proofs.Ytinlfoblpgpikaa.Pr
namespace Go.Proofs.Ytinlfoblpgpikaa.Pr
open Go.RowKit Go.Proofs.YtinlfoblpgpikaaW.PrintWords Go.Proofs.YtinlfoblpgpikaaW.PrintLast Go.Proofs.YtinlfoblpgpikaaW.PrintMore
section
attribute [local go_sem] max2_int min2_int max_two min_two max_three min_three max_four min_four   -- for this text's walks alone
set_option linter.unusedVariables false
set_option linter.unusedSimpArgs false



theorem info45 : (Try.prog.info? 45).map (fun i => (i.zero, i.size, i.bytes)) = some (some (.agg #[(.int .i64 0), (.slice none 0 0), (.slice none 0 0), (.slice none 0 0)]), 4, 80) := by kernel_rfl
theorem info127 : (Try.prog.info? 127).map (fun i => (i.zero, i.size, i.bytes)) = some (some (.agg #[(.bool false), (.int .i64 0), (.int .u8 0)]), 3, 24) := by kernel_rfl
-- the values' own types
/-! #### struct type 82 -/
structure S127 where
  f0 : Bool
  f1 : Int
  f2 : Int
def z127 : S127 := ⟨false, (0 : Int), (0 : Int)⟩
def k127 : Kd S127 := Kd.iso (Kd.pair Kd.bool (Kd.pair (Kd.int .i64) (Kd.int .u8))) (fun x : S127 => (x.f0, x.f1, x.f2))
theorem k127_open {w : World} {x : S127} {cs : List Value} (h : k127.K w x cs) : cs = [.bool x.f0, .int .i64 x.f1, .int .u8 x.f2] := by
  obtain ⟨_, _, rfl, rfl, ⟨_, _, rfl, rfl, rfl⟩⟩ := h
  exact rfl
theorem k127_mkM (w : World) (base : Nat) (ok : Nat → Prop) (x : S127)  : k127.M w base ok x [.bool x.f0, .int .i64 x.f1, .int .u8 x.f2] := ⟨[.bool x.f0], [.int .i64 x.f1, .int .u8 x.f2], rfl, rfl, ⟨[.int .i64 x.f1], [.int .u8 x.f2], rfl, rfl, rfl⟩⟩
def rd_T127 (xs : List S127) (i : Int) : S127 := xs.getD i.toNat z127
theorem at_T127 {w : World} {A : Option Addr} {n : Nat} {xs : List S127} (h : Kd.C k127 w A n xs) (i : Int) (h0 : 0 ≤ i) (h1 : i < n) : ∃ ad , A = some ad ∧ w.cell? (ad.add (i.toNat * 3)) = some (.bool (rd_T127 xs i).f0) ∧ w.cell? ⟨(ad.add (i.toNat * 3)).block, (ad.add (i.toNat * 3)).off + 1, none⟩ = some (.int .i64 (rd_T127 xs i).f1) ∧ w.cell? ⟨(ad.add (i.toNat * 3)).block, (ad.add (i.toNat * 3)).off + 2, none⟩ = some (.int .u8 (rd_T127 xs i).f2) := by
  obtain ⟨ad, c, e, _, hK, hc0⟩ := Kd.C_get h z127 i h0 h1
  have hc : ∀ j u, c[j]? = some u → w.cell? (ad.add (i.toNat * 3 + j)) = some u := hc0
  obtain rfl := k127_open hK
  exact ⟨ad, e, hc 0 _ rfl, by rw [← add_field _ _ 1 (by omega)]; exact hc 1 _ rfl, by rw [← add_field _ _ 2 (by omega)]; exact hc 2 _ rfl⟩

/-! #### struct type 26 -/
/-! #### struct type 29 -/
end
end Go.Proofs.Ytinlfoblpgpikaa.Pr
namespace Go.Proofs.Ytinlfoblpgpikaa.Pr
open Go.RowKit Go.Proofs.YtinlfoblpgpikaaW.PrintWords Go.Proofs.YtinlfoblpgpikaaW.PrintLast Go.Proofs.YtinlfoblpgpikaaW.PrintMore
section
attribute [local go_sem] max2_int min2_int max_two min_two max_three min_three max_four min_four   -- for this text's walks alone
set_option linter.unusedVariables false
set_option linter.unusedSimpArgs false

/-! ### sapperref17_in: function 43 -/
def sapperref17_in.f (a0 : Int) (a1 : Int) (a2 : Int) : Option (Bool) := if a0 ≥ a1 then (some (decide (a0 ≤ a2))) else (some false)
set_option maxHeartbeats 8000000 in
set_option maxRecDepth 100000 in
theorem sapperref17_in.calls (a0 : Int) (a1 : Int) (a2 : Int) (r : Bool) (w : World) (h : sapperref17_in.f a0 a1 a2 = some r) :
    Calls Try.prog 43 #[.int .i64 a0, .int .i64 a1, .int .i64 a2] w fun e w' => e = .returned (.bool r) ∧ Drawn0 w w' := by
  have H : (if a0 ≥ a1 then (some (decide (a0 ≤ a2))) else (some false)) = some r := h
  clear h
  by_cases c4 : a0 ≥ a1
  · rw [if_pos c4] at H
    have c4b0 : decide (a1 ≤ a0) = true := decide_eq_true c4
    clear c4
    obtain rfl := Option.some.inj H
    go_enter Try.func43, Try.ntmps43
    go_wp2
    go_ret
    exact ⟨by first | rfl | (simp; done) | (simp [*]; done), by repeat (first | exact Drawn0.refl _ | apply Drawn0.step)⟩
  · rw [if_neg c4] at H
    have c4b0 : decide (a1 ≤ a0) = false := decide_eq_false c4
    clear c4
    obtain rfl := Option.some.inj H
    go_enter Try.func43, Try.ntmps43
    go_wp2
    go_ret
    exact ⟨by first | rfl | (simp; done) | (simp [*]; done), by repeat (first | exact Drawn0.refl _ | apply Drawn0.step)⟩

/-! ### sapperref17_Sums: function 48 -/
mutual
def sapperref17_Sums.l0 : Nat → Int → Int → List (S81) → Int → Int → Option (Int × Int × Bool)
  | 0, _, _, _, _, _ => none
  | k + 1, x5, x6, x9, x10, x11 => if x11 < x10 then (if 0 ≤ x11 then (if x11 < (x9.length : Int) then ((sapperref17_in.f ((rd_T81 x9 x11).f0) 0 16777216).bind fun t177 => (if t177 = true then ((sapperref17_in.f ((rd_T81 x9 x11).f1) 0 16777216).bind fun t178 => (sapperref17_Sums.j1 k x5 x6 x9 x10 x11 (!t178) ((rd_T81 x9 x11).f0) ((rd_T81 x9 x11).f1) ((rd_T81 x9 x11).f2))) else (sapperref17_Sums.j1 k x5 x6 x9 x10 x11 true ((rd_T81 x9 x11).f0) ((rd_T81 x9 x11).f1) ((rd_T81 x9 x11).f2)))) else (none)) else (none)) else (some (x5, x6, true))
def sapperref17_Sums.j1 : Nat → Int → Int → List (S81) → Int → Int → Bool → Int → Int → Int → Option (Int × Int × Bool)
  | 0, _, _, _, _, _, _, _, _, _ => none
  | k + 1, x5, x6, x9, x10, x11, x24, x177000, x177001, x177002 => if x24 = true then (some (0, 0, false)) else (if (wrap64 (x5 + x177000)) > 16777216 then (some (0, 0, false)) else (if (wrap64 (x6 + x177001)) > 16777216 then (some (0, 0, false)) else (sapperref17_Sums.l0 k (wrap64 (x5 + x177000)) (wrap64 (x6 + x177001)) x9 x10 (wrap64 (x11 + 1)))))
end
def sapperref17_Sums.f (k : Nat) (l0 : List (S81)) : Option (Int × Int × Bool) := sapperref17_Sums.l0 k 0 0 l0 (l0.length : Int) 0
theorem sapperref17_Sums.mono_l : ∀ k, (∀ y0 y1 y2 y3 y4, LeO (sapperref17_Sums.l0 k y0 y1 y2 y3 y4) (sapperref17_Sums.l0 (k + 1) y0 y1 y2 y3 y4)) ∧ (∀ y0 y1 y2 y3 y4 y5 y6 y7 y8, LeO (sapperref17_Sums.j1 k y0 y1 y2 y3 y4 y5 y6 y7 y8) (sapperref17_Sums.j1 (k + 1) y0 y1 y2 y3 y4 y5 y6 y7 y8))
  | 0 => ⟨fun _ _ _ _ _ r h => by simp [sapperref17_Sums.l0] at h, fun _ _ _ _ _ _ _ _ _ r h => by simp [sapperref17_Sums.j1] at h⟩
  | k + 1 => by
    obtain ⟨ih0, ih1⟩ := sapperref17_Sums.mono_l k
    refine ⟨?_, ?_⟩
    · intro y0 y1 y2 y3 y4
      unfold sapperref17_Sums.l0
      repeat' first
      | (with_reducible exact ih0 _ _ _ _ _)
      | (with_reducible exact ih1 _ _ _ _ _ _ _ _ _)
      | (with_reducible exact LeO.refl _)
      | (with_reducible exact LeO.none _)
      | (with_reducible refine LeO.ite ?_ ?_)
      | (with_reducible refine LeO.bind ?_ (fun _ => ?_))
      | exact ih0 _ _ _ _ _
      | exact ih1 _ _ _ _ _ _ _ _ _
      | exact LeO.none _
      | refine LeO.ite ?_ ?_
      | refine LeO.bind ?_ (fun _ => ?_)
    · intro y0 y1 y2 y3 y4 y5 y6 y7 y8
      unfold sapperref17_Sums.j1
      repeat' first
      | (with_reducible exact ih0 _ _ _ _ _)
      | (with_reducible exact ih1 _ _ _ _ _ _ _ _ _)
      | (with_reducible exact LeO.refl _)
      | (with_reducible exact LeO.none _)
      | (with_reducible refine LeO.ite ?_ ?_)
      | (with_reducible refine LeO.bind ?_ (fun _ => ?_))
      | exact ih0 _ _ _ _ _
      | exact ih1 _ _ _ _ _ _ _ _ _
      | exact LeO.none _
      | refine LeO.ite ?_ ?_
      | refine LeO.bind ?_ (fun _ => ?_)
theorem sapperref17_Sums.mono : ∀ a0 k, LeO (sapperref17_Sums.f k a0) (sapperref17_Sums.f (k + 1) a0) := by
  intro a0 k
  obtain ⟨ih0, ih1⟩ := sapperref17_Sums.mono_l k
  unfold sapperref17_Sums.f
  repeat' first
      | (with_reducible exact ih0 _ _ _ _ _)
      | (with_reducible exact ih1 _ _ _ _ _ _ _ _ _)
      | (with_reducible exact LeO.refl _)
      | (with_reducible exact LeO.none _)
      | (with_reducible refine LeO.ite ?_ ?_)
      | (with_reducible refine LeO.bind ?_ (fun _ => ?_))
      | exact ih0 _ _ _ _ _
      | exact ih1 _ _ _ _ _ _ _ _ _
      | exact LeO.none _
      | refine LeO.ite ?_ ?_
      | refine LeO.bind ?_ (fun _ => ?_)
set_option maxHeartbeats 8000000 in
set_option maxRecDepth 100000 in
theorem sapperref17_Sums.calls (k : Nat) (A0 : Option Addr) (c0 : Nat) (l0 : List (S81)) (r1 : Int) (r2 : Int) (r3 : Bool) (w : World) (hr0 : Kd.C k81 w A0 l0.length l0) (hc0 : l0.length ≤ c0) (h : sapperref17_Sums.f k l0 = some (r1, r2, r3)) :
    Calls Try.prog 48 #[.slice A0 l0.length c0] w fun e w' => e = .returned (.tuple #[.int .i64 r1, .int .i64 r2, .bool r3]) ∧ Below w.heap.size w w' := by
  have hu81 := Try.underlying81
  have HR0 := Aside0.mk hr0
  have HC0 := Aside0.mk hc0
  clear hr0 hc0
  have HB := Aside0.mk (Below.refl w.heap.size w)
  have H : (sapperref17_Sums.l0 k 0 0 l0 (l0.length : Int) 0) = some (r1, r2, r3) := h
  clear h
  have H' := Aside0.mk H
  clear H
  go_enter Try.func48, Try.ntmps48
  go_wp2
  go_loopg [5, 6, 11] k (fun kq v5 v6 v11 w' => ∃ (x5_1 : Int) (x6_1 : Int) (x11_1 : Int), v5 = .int .i64 x5_1 ∧ v6 = .int .i64 x6_1 ∧ v11 = .int .i64 x11_1 ∧ Aside0 (sapperref17_Sums.l0 kq x5_1 x6_1 l0 (l0.length : Int) x11_1 = some (r1, r2, r3)) ∧ Aside0 (kq ≤ k) ∧ Aside0 (Below w.heap.size w w'))
  case atStart => exact ⟨(0), (0), (0), (by first | rfl | (simp; done) | (simp [*]; done)), (by first | rfl | (simp; done) | (simp [*]; done)), (by first | rfl | (simp; done) | (simp [*]; done)), H', ⟨Nat.le_refl _⟩, ⟨by repeat (first | (with_reducible first | exact HB.out | apply below_alloc | apply pw_below_drewN | apply below_drew1) | exact HB.out)⟩⟩
  case round =>
    clear H'
    obtain ⟨x5_1, x6_1, x11_1, rfl, rfl, rfl, HA, HK1, HB⟩ := hrel
    cases gk with
    | zero => exact absurd HA.out (by simp [sapperref17_Sums.l0])
    | succ k1 =>
      have H := HA.out
      clear HA
      simp only [sapperref17_Sums.l0] at H
      by_cases c2 : x11_1 < (l0.length : Int)
      · rw [if_pos c2] at H
        have c2b0 : decide (x11_1 < (l0.length : Int)) = true := decide_eq_true c2
        clear c2
        by_cases c3 : 0 ≤ x11_1
        · rw [if_pos c3] at H
          have c3b0 : decide (0 ≤ x11_1) = true := decide_eq_true c3
          clear c3
          by_cases c4 : x11_1 < (l0.length : Int)
          · rw [if_pos c4] at H
            have c4b0 : decide (x11_1 < (l0.length : Int)) = true := decide_eq_true c4
            clear c4
            have HC5 := Aside0.mk H
            clear H
            have p175 : 0 ≤ (x11_1 : Int) := of_decide_eq_true (by first | (with_reducible assumption) | assumption)
            have q175 : x11_1 < (l0.length : Int) := of_decide_eq_true (by first | (with_reducible assumption) | assumption)
            obtain ⟨ad175, e175, hx175_0, hx175_1, hx175_2⟩ := at_T81 HR0.out x11_1 p175 q175
            cases e175
            replace hx175_0 := (HB.out.cell (World.block_lt_of_cell? w _ hx175_0)).trans hx175_0
            replace hx175_1 := (HB.out.cell (World.block_lt_of_cell? w _ hx175_1)).trans hx175_1
            replace hx175_2 := (HB.out.cell (World.block_lt_of_cell? w _ hx175_2)).trans hx175_2
            replace p175 := eq_true p175
            replace q175 := eq_true q175
            go_upto_region 5 with (first | ((with_reducible refine gate_dst (N := 8) rfl ?_); refine box_event ?hg (N := 8) ?hd (cs := #[.int .i64 0, .int .i64 0, .int .i64 0]) (t := 81) ?hr ?_; (case hd => rfl); (case hg => rfl); (case hr => first | (go_simp; done) | (go_simp; rfl)); intro gb176 hg w6 hbox hb; have n0_ := Aside0.mk (below_step (by repeat (first | (with_reducible first | exact HB.out | apply below_alloc | apply pw_below_drewN | apply below_drew1) | exact HB.out)) hb); have n1_ := Aside0.mk (hbox); have n2_ := Aside0.mk ((by rw [hg]; exact (below_size (by repeat (first | (with_reducible first | exact HB.out | apply below_alloc | apply pw_below_drewN | apply below_drew1) | exact HB.out))) : w.heap.size ≤ gb176)); have n3_ := Aside0.mk ((by rw [hg]; exact (below_size (by repeat (first | (with_reducible first | exact HB.out | apply below_alloc | apply pw_below_drewN | apply below_drew1) | exact HB.out))) : w.heap.size ≤ gb176)); clear HB; have HB := n0_; have BK176 := n1_; have GW176 := n2_; have GE176 := n3_; clear n0_ n1_ n2_ n3_; clear hb hbox hg; have hcz7_0 : w6.cell? ⟨gb176, 0, none⟩ = some (.int .i64 0) := (blk_cell BK176.out 0).trans rfl; have hcz7_1 : w6.cell? ⟨gb176, 1, none⟩ = some (.int .i64 0) := (blk_cell BK176.out 1).trans rfl; have hcz7_2 : w6.cell? ⟨gb176, 2, none⟩ = some (.int .i64 0) := (blk_cell BK176.out 2).trans rfl; have hfz7_0 := blk_frozen BK176.out 0; have hfz7_1 := blk_frozen BK176.out 1; have hfz7_2 := blk_frozen BK176.out 2))
            (try simp only [Act.put, List.setIfInBounds_toArray, List.set_cons_zero, List.set_cons_succ])
            go_cut [24] (fun v24 wc => ∃ (kq : Nat) (x24_4 : Bool), v24 = .bool x24_4 ∧ Aside0 (sapperref17_Sums.j1 kq x5_1 x6_1 l0 (l0.length : Int) x11_1 x24_4 ((rd_T81 l0 x11_1).f0) ((rd_T81 l0 x11_1).f1) ((rd_T81 l0 x11_1).f2) = some (r1, r2, r3)) ∧ Aside0 (kq ≤ k1) ∧ Aside0 (wc.heap[gb176]? = some (.cells #[.int .i64 ((rd_T81 l0 x11_1).f0), .int .i64 ((rd_T81 l0 x11_1).f1), .int .i64 ((rd_T81 l0 x11_1).f2)] 81 (0, 0))) ∧ Aside0 (Below w.heap.size w wc))
            case first =>
              have H := HC5.out
              clear HC5
              replace H := Option.bind_eq_some_iff.mp H
              obtain ⟨t177, A80, H⟩ := H
              replace H : (if t177 = true then ((sapperref17_in.f ((rd_T81 l0 x11_1).f1) 0 16777216).bind fun t178 => (sapperref17_Sums.j1 k1 x5_1 x6_1 l0 (l0.length : Int) x11_1 (!t178) ((rd_T81 l0 x11_1).f0) ((rd_T81 l0 x11_1).f1) ((rd_T81 l0 x11_1).f2))) else (sapperref17_Sums.j1 k1 x5_1 x6_1 l0 (l0.length : Int) x11_1 true ((rd_T81 l0 x11_1).f0) ((rd_T81 l0 x11_1).f1) ((rd_T81 l0 x11_1).f2))) = some (r1, r2, r3) := H
              have A8 := Aside0.mk A80
              clear A80
              by_cases c9 : t177 = true
              · subst c9
                have H1 : ((sapperref17_in.f ((rd_T81 l0 x11_1).f1) 0 16777216).bind fun t178 => (sapperref17_Sums.j1 k1 x5_1 x6_1 l0 (l0.length : Int) x11_1 (!t178) ((rd_T81 l0 x11_1).f0) ((rd_T81 l0 x11_1).f1) ((rd_T81 l0 x11_1).f2))) = some (r1, r2, r3) := by rw [if_pos rfl] at H; exact H
                clear H
                have H := H1
                clear H1
                replace H := Option.bind_eq_some_iff.mp H
                obtain ⟨t178, A100, H⟩ := H
                replace H : (sapperref17_Sums.j1 k1 x5_1 x6_1 l0 (l0.length : Int) x11_1 (!t178) ((rd_T81 l0 x11_1).f0) ((rd_T81 l0 x11_1).f1) ((rd_T81 l0 x11_1).f2)) = some (r1, r2, r3) := H
                have A10 := Aside0.mk A100
                clear A100
                have H' := Aside0.mk H
                clear H
                have hcz11_0 : w6.cell? ⟨gb176, 0, none⟩ = some (.int .i64 0) := (blk_cell BK176.out 0).trans rfl
                have hcz11_1 : w6.cell? ⟨gb176, 1, none⟩ = some (.int .i64 0) := (blk_cell BK176.out 1).trans rfl
                have hcz11_2 : w6.cell? ⟨gb176, 2, none⟩ = some (.int .i64 0) := (blk_cell BK176.out 2).trans rfl
                have hfz11_0 := blk_frozen BK176.out 0
                have hfz11_1 := blk_frozen BK176.out 1
                have hfz11_2 := blk_frozen BK176.out 2
                go_wp2_with (first | ((with_reducible refine gate_callee (f := 43) rfl ?_); refine goesL_ (some 17) rfl rfl Try.func43 (by kernel_rfl) rfl #[.int .i64 ((rd_T81 l0 x11_1).f0), .int .i64 0, .int .i64 16777216] rfl (by (try simp only [List.map_toArray, List.map_cons, List.map_nil]); first | done | rfl | (simp only [List.length_drop, List.length_take]; rfl)) ?_; (with_reducible refine (sapperref17_in.calls ((rd_T81 l0 x11_1).f0) 0 16777216 true _ A8.out).mono ?_); rintro e w' ⟨rfl, ⟨nd, rfl⟩⟩; refine ⟨_, rfl, ?_⟩) | (go_at_call 43; (with_reducible refine (sapperref17_in.calls ((rd_T81 l0 x11_1).f1) 0 16777216 t178 _ A10.out).mono ?_); rintro e w' ⟨rfl, ⟨nd, rfl⟩⟩))
                go_meet
                case rel => exact ⟨_, (!t178), (by first | rfl | (simp; done) | (simp [*]; done)), H', ⟨by have := HK1.out; first | omega | exact Nat.le_refl _⟩, ⟨by (with_reducible repeat (first | refine blk_drewN ?_ _ | refine blk_drew ?_ | refine blk_alloc ?_ _)); refine blk_put (cs := #[.int .i64 ((rd_T81 l0 x11_1).f0), .int .i64 ((rd_T81 l0 x11_1).f1), .int .i64 0]) ?_ 2 _ rfl; (with_reducible repeat (first | refine blk_drewN ?_ _ | refine blk_drew ?_ | refine blk_alloc ?_ _)); refine blk_put (cs := #[.int .i64 ((rd_T81 l0 x11_1).f0), .int .i64 0, .int .i64 0]) ?_ 1 _ rfl; (with_reducible repeat (first | refine blk_drewN ?_ _ | refine blk_drew ?_ | refine blk_alloc ?_ _)); refine blk_put (cs := #[.int .i64 0, .int .i64 0, .int .i64 0]) ?_ 0 _ rfl; (with_reducible repeat (first | refine blk_drewN ?_ _ | refine blk_drew ?_ | refine blk_alloc ?_ _)); exact BK176.out⟩, ⟨by repeat (first | (with_reducible first | exact HB.out | apply below_alloc | apply pw_below_drewN | apply below_drew1 | refine below_set ?_ GE176.out) | exact HB.out)⟩⟩
              · replace c9 := Bool.eq_false_iff.mpr c9
                subst c9
                have H1 : (sapperref17_Sums.j1 k1 x5_1 x6_1 l0 (l0.length : Int) x11_1 true ((rd_T81 l0 x11_1).f0) ((rd_T81 l0 x11_1).f1) ((rd_T81 l0 x11_1).f2)) = some (r1, r2, r3) := by rw [if_neg (show ¬ (false = true) by decide)] at H; exact H
                clear H
                have H := H1
                clear H1
                have H' := Aside0.mk H
                clear H
                have hcz12_0 : w6.cell? ⟨gb176, 0, none⟩ = some (.int .i64 0) := (blk_cell BK176.out 0).trans rfl
                have hcz12_1 : w6.cell? ⟨gb176, 1, none⟩ = some (.int .i64 0) := (blk_cell BK176.out 1).trans rfl
                have hcz12_2 : w6.cell? ⟨gb176, 2, none⟩ = some (.int .i64 0) := (blk_cell BK176.out 2).trans rfl
                have hfz12_0 := blk_frozen BK176.out 0
                have hfz12_1 := blk_frozen BK176.out 1
                have hfz12_2 := blk_frozen BK176.out 2
                go_wp2_with (first | ((with_reducible refine gate_callee (f := 43) rfl ?_); refine goesL_ (some 17) rfl rfl Try.func43 (by kernel_rfl) rfl #[.int .i64 ((rd_T81 l0 x11_1).f0), .int .i64 0, .int .i64 16777216] rfl (by (try simp only [List.map_toArray, List.map_cons, List.map_nil]); first | done | rfl | (simp only [List.length_drop, List.length_take]; rfl)) ?_; (with_reducible refine (sapperref17_in.calls ((rd_T81 l0 x11_1).f0) 0 16777216 false _ A8.out).mono ?_); rintro e w' ⟨rfl, ⟨nd, rfl⟩⟩; refine ⟨_, rfl, ?_⟩))
                go_meet
                case rel => exact ⟨_, (true), (by first | rfl | (simp; done) | (simp [*]; done)), H', ⟨by have := HK1.out; first | omega | exact Nat.le_refl _⟩, ⟨by (with_reducible repeat (first | refine blk_drewN ?_ _ | refine blk_drew ?_ | refine blk_alloc ?_ _)); refine blk_put (cs := #[.int .i64 ((rd_T81 l0 x11_1).f0), .int .i64 ((rd_T81 l0 x11_1).f1), .int .i64 0]) ?_ 2 _ rfl; (with_reducible repeat (first | refine blk_drewN ?_ _ | refine blk_drew ?_ | refine blk_alloc ?_ _)); refine blk_put (cs := #[.int .i64 ((rd_T81 l0 x11_1).f0), .int .i64 0, .int .i64 0]) ?_ 1 _ rfl; (with_reducible repeat (first | refine blk_drewN ?_ _ | refine blk_drew ?_ | refine blk_alloc ?_ _)); refine blk_put (cs := #[.int .i64 0, .int .i64 0, .int .i64 0]) ?_ 0 _ rfl; (with_reducible repeat (first | refine blk_drewN ?_ _ | refine blk_drew ?_ | refine blk_alloc ?_ _)); exact BK176.out⟩, ⟨by repeat (first | (with_reducible first | exact HB.out | apply below_alloc | apply pw_below_drewN | apply below_drew1 | refine below_set ?_ GE176.out) | exact HB.out)⟩⟩
            case rest =>
              clear HC5
              try clear p1
              try clear q1
              try clear hx1
              try clear c2
              try clear c2b0
              try clear p2
              try clear c3
              try clear c3b0
              try clear c4
              try clear c4b0
              try clear c9
              try clear hcz11_0
              try clear hcz11_1
              try clear hcz11_2
              try clear hcz12_0
              try clear hcz12_1
              try clear hcz12_2
              try clear hcz7_0
              try clear hcz7_1
              try clear hcz7_2
              try clear hfz11_0
              try clear hfz11_1
              try clear hfz11_2
              try clear hfz12_0
              try clear hfz12_1
              try clear hfz12_2
              try clear hfz7_0
              try clear hfz7_1
              try clear hfz7_2
              try clear hx175_0
              try clear hx175_1
              try clear hx175_2
              try clear p175
              try clear q175
              obtain ⟨kq, x24_4, rfl, HA, HJ4, BK176, HB⟩ := hcut
              cases kq with
              | zero => exact absurd HA.out (by simp [sapperref17_Sums.j1])
              | succ kj4 =>
                have H := HA.out
                clear HA
                simp only [sapperref17_Sums.j1] at H
                by_cases c13 : x24_4 = true
                · subst c13
                  have H1 : (some (0, 0, false)) = some (r1, r2, r3) := by rw [if_pos rfl] at H; exact H
                  clear H
                  have H := H1
                  clear H1
                  simp only [Option.some.injEq, Prod.mk.injEq] at H
                  obtain ⟨rfl, rfl, rfl⟩ := H
                  go_wp2
                  go_ret3
                  exact ⟨by first | rfl | (simp [errW_none, errW_some] <;> rfl) | (simp [*, errW_none, errW_some] <;> rfl), by repeat (first | (with_reducible first | exact HB.out | apply below_alloc | apply pw_below_drewN | apply below_drew1 | refine below_set ?_ GE176.out) | exact HB.out)⟩
                · replace c13 := Bool.eq_false_iff.mpr c13
                  subst c13
                  have H1 : (if (wrap64 (x5_1 + ((rd_T81 l0 x11_1).f0))) > 16777216 then (some (0, 0, false)) else (if (wrap64 (x6_1 + ((rd_T81 l0 x11_1).f1))) > 16777216 then (some (0, 0, false)) else (sapperref17_Sums.l0 kj4 (wrap64 (x5_1 + ((rd_T81 l0 x11_1).f0))) (wrap64 (x6_1 + ((rd_T81 l0 x11_1).f1))) l0 (l0.length : Int) (wrap64 (x11_1 + 1))))) = some (r1, r2, r3) := by rw [if_neg (show ¬ (false = true) by decide)] at H; exact H
                  clear H
                  have H := H1
                  clear H1
                  by_cases c14 : (wrap64 (x5_1 + ((rd_T81 l0 x11_1).f0))) > 16777216
                  · rw [if_pos c14] at H
                    have c14b0 : decide (16777216 < (wrap64 (x5_1 + ((rd_T81 l0 x11_1).f0)))) = true := decide_eq_true c14
                    clear c14
                    simp only [Option.some.injEq, Prod.mk.injEq] at H
                    obtain ⟨rfl, rfl, rfl⟩ := H
                    have hcz15_0 : wc.cell? ⟨gb176, 0, none⟩ = some (.int .i64 ((rd_T81 l0 x11_1).f0)) := (blk_cell BK176.out 0).trans rfl
                    have hcz15_1 : wc.cell? ⟨gb176, 1, none⟩ = some (.int .i64 ((rd_T81 l0 x11_1).f1)) := (blk_cell BK176.out 1).trans rfl
                    have hcz15_2 : wc.cell? ⟨gb176, 2, none⟩ = some (.int .i64 ((rd_T81 l0 x11_1).f2)) := (blk_cell BK176.out 2).trans rfl
                    have hfz15_0 := blk_frozen BK176.out 0
                    have hfz15_1 := blk_frozen BK176.out 1
                    have hfz15_2 := blk_frozen BK176.out 2
                    go_wp2
                    go_ret3
                    exact ⟨by first | rfl | (simp [errW_none, errW_some] <;> rfl) | (simp [*, errW_none, errW_some] <;> rfl), by repeat (first | (with_reducible first | exact HB.out | apply below_alloc | apply pw_below_drewN | apply below_drew1 | refine below_set ?_ GE176.out) | exact HB.out)⟩
                  · rw [if_neg c14] at H
                    have c14b0 : decide (16777216 < (wrap64 (x5_1 + ((rd_T81 l0 x11_1).f0)))) = false := decide_eq_false c14
                    clear c14
                    by_cases c16 : (wrap64 (x6_1 + ((rd_T81 l0 x11_1).f1))) > 16777216
                    · rw [if_pos c16] at H
                      have c16b0 : decide (16777216 < (wrap64 (x6_1 + ((rd_T81 l0 x11_1).f1)))) = true := decide_eq_true c16
                      clear c16
                      simp only [Option.some.injEq, Prod.mk.injEq] at H
                      obtain ⟨rfl, rfl, rfl⟩ := H
                      have hcz17_0 : wc.cell? ⟨gb176, 0, none⟩ = some (.int .i64 ((rd_T81 l0 x11_1).f0)) := (blk_cell BK176.out 0).trans rfl
                      have hcz17_1 : wc.cell? ⟨gb176, 1, none⟩ = some (.int .i64 ((rd_T81 l0 x11_1).f1)) := (blk_cell BK176.out 1).trans rfl
                      have hcz17_2 : wc.cell? ⟨gb176, 2, none⟩ = some (.int .i64 ((rd_T81 l0 x11_1).f2)) := (blk_cell BK176.out 2).trans rfl
                      have hfz17_0 := blk_frozen BK176.out 0
                      have hfz17_1 := blk_frozen BK176.out 1
                      have hfz17_2 := blk_frozen BK176.out 2
                      go_wp2
                      go_ret3
                      exact ⟨by first | rfl | (simp [errW_none, errW_some] <;> rfl) | (simp [*, errW_none, errW_some] <;> rfl), by repeat (first | (with_reducible first | exact HB.out | apply below_alloc | apply pw_below_drewN | apply below_drew1 | refine below_set ?_ GE176.out) | exact HB.out)⟩
                    · rw [if_neg c16] at H
                      have c16b0 : decide (16777216 < (wrap64 (x6_1 + ((rd_T81 l0 x11_1).f1)))) = false := decide_eq_false c16
                      clear c16
                      have H' := Aside0.mk H
                      clear H
                      have hcz18_0 : wc.cell? ⟨gb176, 0, none⟩ = some (.int .i64 ((rd_T81 l0 x11_1).f0)) := (blk_cell BK176.out 0).trans rfl
                      have hcz18_1 : wc.cell? ⟨gb176, 1, none⟩ = some (.int .i64 ((rd_T81 l0 x11_1).f1)) := (blk_cell BK176.out 1).trans rfl
                      have hcz18_2 : wc.cell? ⟨gb176, 2, none⟩ = some (.int .i64 ((rd_T81 l0 x11_1).f2)) := (blk_cell BK176.out 2).trans rfl
                      have hfz18_0 := blk_frozen BK176.out 0
                      have hfz18_1 := blk_frozen BK176.out 1
                      have hfz18_2 := blk_frozen BK176.out 2
                      go_wp2
                      go_roundg kj4
                      case measure => have := HK1.out; have := HJ4.out; omega
                      case rel => exact ⟨(wrap64 (x5_1 + ((rd_T81 l0 x11_1).f0))), (wrap64 (x6_1 + ((rd_T81 l0 x11_1).f1))), (wrap64 (x11_1 + 1)), (by first | rfl | (simp; done) | (simp [*]; done)), (by first | rfl | (simp; done) | (simp [*]; done)), (by first | rfl | (simp; done) | (simp [*]; done)), H', ⟨by have := HK1.out; have := HJ4.out; omega⟩, ⟨by repeat (first | (with_reducible first | exact HB.out | apply below_alloc | apply pw_below_drewN | apply below_drew1 | refine below_set ?_ GE176.out) | exact HB.out)⟩⟩
          · rw [if_neg c4] at H
            exact absurd H (by simp)
        · rw [if_neg c3] at H
          exact absurd H (by simp)
      · rw [if_neg c2] at H
        have c2b0 : decide (x11_1 < (l0.length : Int)) = false := decide_eq_false c2
        clear c2
        simp only [Option.some.injEq, Prod.mk.injEq] at H
        obtain ⟨rfl, rfl, rfl⟩ := H
        go_wp2
        go_ret3
        exact ⟨by first | rfl | (simp [errW_none, errW_some] <;> rfl) | (simp [*, errW_none, errW_some] <;> rfl), by repeat (first | (with_reducible first | exact HB.out | apply below_alloc | apply pw_below_drewN | apply below_drew1) | exact HB.out)⟩

/-! ### sapperref17_Check: function 21 -/
end
end Go.Proofs.Ytinlfoblpgpikaa.Pr
namespace Go.Proofs.Ytinlfoblpgpikaa.Pr
open Go.RowKit Go.Proofs.YtinlfoblpgpikaaW.PrintWords Go.Proofs.YtinlfoblpgpikaaW.PrintLast Go.Proofs.YtinlfoblpgpikaaW.PrintMore
section
attribute [local go_sem] max2_int min2_int max_two min_two max_three min_three max_four min_four   -- for this text's walks alone
set_option linter.unusedVariables false
set_option linter.unusedSimpArgs false

attribute [local go_sem high] eqA81

/-! ### sapperref17_SameSteps: function 33 -/
def sapperref17_SameSteps.l0 : Nat → List (S81) → List (S81) → Int → Int → Option (Bool)
  | 0, _, _, _, _ => none
  | k + 1, x0, x1, x12, x13 => if x13 < x12 then (if 0 ≤ x13 then (if x13 < (x0.length : Int) then (if x13 < (x1.length : Int) then (if (!(((rd_T81 x0 x13).f0) == ((rd_T81 x1 x13).f0)) || (!(((rd_T81 x0 x13).f1) == ((rd_T81 x1 x13).f1)) || (!(((rd_T81 x0 x13).f2) == ((rd_T81 x1 x13).f2))))) = true then (some false) else (sapperref17_SameSteps.l0 k x0 x1 x12 (wrap64 (x13 + 1)))) else (none)) else (none)) else (none)) else (some true)
def sapperref17_SameSteps.f (k : Nat) (l0 : List (S81)) (l1 : List (S81)) : Option (Bool) := if (l0.length : Int) = (l1.length : Int) then (sapperref17_SameSteps.l0 k l0 l1 (l0.length : Int) 0) else (some false)
set_option maxHeartbeats 8000000 in
set_option maxRecDepth 100000 in
theorem sapperref17_SameSteps.calls (k : Nat) (A0 : Option Addr) (c0 : Nat) (l0 : List (S81)) (A1 : Option Addr) (c1 : Nat) (l1 : List (S81)) (r : Bool) (w : World) (hr0 : Kd.C k81 w A0 l0.length l0) (hc0 : l0.length ≤ c0) (hr1 : Kd.C k81 w A1 l1.length l1) (hc1 : l1.length ≤ c1) (h : sapperref17_SameSteps.f k l0 l1 = some r) :
    Calls Try.prog 33 #[.slice A0 l0.length c0, .slice A1 l1.length c1] w fun e w' => e = .returned (.bool r) ∧ Drawn0 w w' := by
  have hu81 := Try.underlying81
  have HR0 := Aside0.mk hr0
  have HC0 := Aside0.mk hc0
  clear hr0 hc0
  have HR1 := Aside0.mk hr1
  have HC1 := Aside0.mk hc1
  clear hr1 hc1
  have H : (if (l0.length : Int) = (l1.length : Int) then (sapperref17_SameSteps.l0 k l0 l1 (l0.length : Int) 0) else (some false)) = some r := h
  clear h
  by_cases c3 : (l0.length : Int) = (l1.length : Int)
  · rw [if_pos c3] at H
    have c3b0 : ((l0.length : Int) == (l1.length : Int)) = true := beq_iff_eq.mpr c3
    have c3b1 : ((l0.length : Int) != (l1.length : Int)) = false := bne_eq_false_iff_eq.mpr c3
    have c3b2 : (l0.length == l1.length) = true := by first | simpa using c3 | (simp at c3 ⊢; omega)
    clear c3
    have H' := Aside0.mk H
    clear H
    go_enter Try.func33, Try.ntmps33
    go_wp2
    repeat (go_quiet (fail); try go_wp2)
    go_loopg [13] k (fun kq v13 w' => ∃ (x13_1 : Int), v13 = .int .i64 x13_1 ∧ Aside0 (sapperref17_SameSteps.l0 kq l0 l1 (l0.length : Int) x13_1 = some r) ∧ Aside0 (kq ≤ k) ∧ Drawn0 w w')
    case atStart => exact ⟨(0), (by first | rfl | (simp; done) | (simp [*]; done)), H', ⟨Nat.le_refl _⟩, by repeat (first | exact Drawn0.refl _ | apply Drawn0.step)⟩
    case round =>
      clear H'
      try clear c1
      try clear p2
      try clear c3
      try clear c3b0
      try clear c3b1
      try clear c3b2
      obtain ⟨x13_1, rfl, HA, HK1, ⟨m1, rfl⟩⟩ := hrel
      cases gk with
      | zero => exact absurd HA.out (by simp [sapperref17_SameSteps.l0])
      | succ k1 =>
        have H := HA.out
        clear HA
        simp only [sapperref17_SameSteps.l0] at H
        by_cases c4 : x13_1 < (l0.length : Int)
        · rw [if_pos c4] at H
          have c4b0 : decide (x13_1 < (l0.length : Int)) = true := decide_eq_true c4
          clear c4
          by_cases c5 : 0 ≤ x13_1
          · rw [if_pos c5] at H
            have c5b0 : decide (0 ≤ x13_1) = true := decide_eq_true c5
            clear c5
            by_cases c6 : x13_1 < (l0.length : Int)
            · rw [if_pos c6] at H
              have c6b0 : decide (x13_1 < (l0.length : Int)) = true := decide_eq_true c6
              clear c6
              by_cases c7 : x13_1 < (l1.length : Int)
              · rw [if_pos c7] at H
                have c7b0 : decide (x13_1 < (l1.length : Int)) = true := decide_eq_true c7
                clear c7
                by_cases c8 : (!(((rd_T81 l0 x13_1).f0) == ((rd_T81 l1 x13_1).f0)) || (!(((rd_T81 l0 x13_1).f1) == ((rd_T81 l1 x13_1).f1)) || (!(((rd_T81 l0 x13_1).f2) == ((rd_T81 l1 x13_1).f2))))) = true
                · rw [if_pos c8] at H
                  have c8b0 : (!(((rd_T81 l0 x13_1).f0) == ((rd_T81 l1 x13_1).f0)) || (!(((rd_T81 l0 x13_1).f1) == ((rd_T81 l1 x13_1).f1)) || (!(((rd_T81 l0 x13_1).f2) == ((rd_T81 l1 x13_1).f2))))) = true := c8
                  clear c8
                  obtain rfl := Option.some.inj H
                  have p127 : 0 ≤ (x13_1 : Int) := of_decide_eq_true (by first | (with_reducible assumption) | assumption)
                  have q127 : x13_1 < (l0.length : Int) := of_decide_eq_true (by first | (with_reducible assumption) | assumption)
                  obtain ⟨ad127, e127, hx127_0, hx127_1, hx127_2⟩ := at_T81 HR0.out x13_1 p127 q127
                  cases e127
                  replace p127 := eq_true p127
                  replace q127 := eq_true q127
                  have p128 : 0 ≤ (x13_1 : Int) := of_decide_eq_true (by first | (with_reducible assumption) | assumption)
                  have q128 : x13_1 < (l1.length : Int) := of_decide_eq_true (by first | (with_reducible assumption) | assumption)
                  obtain ⟨ad128, e128, hx128_0, hx128_1, hx128_2⟩ := at_T81 HR1.out x13_1 p128 q128
                  cases e128
                  replace p128 := eq_true p128
                  replace q128 := eq_true q128
                  go_wp2
                  repeat (go_quiet (fail); try go_wp2)
                  go_ret
                  exact ⟨by first | rfl | (simp; done) | (simp [*]; done), by repeat (first | exact Drawn0.refl _ | apply Drawn0.step)⟩
                · rw [if_neg c8] at H
                  have c8b0 : (!(((rd_T81 l0 x13_1).f0) == ((rd_T81 l1 x13_1).f0)) || (!(((rd_T81 l0 x13_1).f1) == ((rd_T81 l1 x13_1).f1)) || (!(((rd_T81 l0 x13_1).f2) == ((rd_T81 l1 x13_1).f2))))) = false := by simpa using c8
                  clear c8
                  have H' := Aside0.mk H
                  clear H
                  have p127 : 0 ≤ (x13_1 : Int) := of_decide_eq_true (by first | (with_reducible assumption) | assumption)
                  have q127 : x13_1 < (l0.length : Int) := of_decide_eq_true (by first | (with_reducible assumption) | assumption)
                  obtain ⟨ad127, e127, hx127_0, hx127_1, hx127_2⟩ := at_T81 HR0.out x13_1 p127 q127
                  cases e127
                  replace p127 := eq_true p127
                  replace q127 := eq_true q127
                  have p128 : 0 ≤ (x13_1 : Int) := of_decide_eq_true (by first | (with_reducible assumption) | assumption)
                  have q128 : x13_1 < (l1.length : Int) := of_decide_eq_true (by first | (with_reducible assumption) | assumption)
                  obtain ⟨ad128, e128, hx128_0, hx128_1, hx128_2⟩ := at_T81 HR1.out x13_1 p128 q128
                  cases e128
                  replace p128 := eq_true p128
                  replace q128 := eq_true q128
                  go_wp2
                  repeat (go_quiet (fail); try go_wp2)
                  go_roundg k1
                  case measure => have := HK1.out; omega
                  case rel => exact ⟨(wrap64 (x13_1 + 1)), (by first | rfl | (simp; done) | (simp [*]; done)), H', ⟨by have := HK1.out; omega⟩, by repeat (first | exact Drawn0.refl _ | apply Drawn0.step)⟩
              · rw [if_neg c7] at H
                exact absurd H (by simp)
            · rw [if_neg c6] at H
              exact absurd H (by simp)
          · rw [if_neg c5] at H
            exact absurd H (by simp)
        · rw [if_neg c4] at H
          have c4b0 : decide (x13_1 < (l0.length : Int)) = false := decide_eq_false c4
          clear c4
          obtain rfl := Option.some.inj H
          go_wp2
          repeat (go_quiet (fail); try go_wp2)
          go_ret
          exact ⟨by first | rfl | (simp; done) | (simp [*]; done), by repeat (first | exact Drawn0.refl _ | apply Drawn0.step)⟩
  · rw [if_neg c3] at H
    have c3b0 : ((l0.length : Int) == (l1.length : Int)) = false := beq_eq_false_iff_ne.mpr c3
    have c3b1 : ((l0.length : Int) != (l1.length : Int)) = true := bne_iff_ne.mpr c3
    have c3b2 : (l0.length == l1.length) = false := by first | simpa using c3 | (simp at c3 ⊢; omega)
    obtain rfl := Option.some.inj H
    go_enter Try.func33, Try.ntmps33
    go_wp2
    repeat (go_quiet (fail); try go_wp2)
    go_ret
    exact ⟨by first | rfl | (simp; done) | (simp [*]; done), by repeat (first | exact Drawn0.refl _ | apply Drawn0.step)⟩
end
end Go.Proofs.Ytinlfoblpgpikaa.Pr
namespace Go.Proofs.Ytinlfoblpgpikaa.Pr
open Go.RowKit Go.Proofs.YtinlfoblpgpikaaW.PrintWords Go.Proofs.YtinlfoblpgpikaaW.PrintLast Go.Proofs.YtinlfoblpgpikaaW.PrintMore
section
attribute [local go_sem] max2_int min2_int max_two min_two max_three min_three max_four min_four   -- for this text's walks alone
set_option linter.unusedVariables false
set_option linter.unusedSimpArgs false

/-! ### sapperref01_Same: function 25 -/
def sapperref01_Same.f (l0 : List Int) (l1 : List Int) : Option (Bool) := some ((strOfNums l0).toList == (strOfNums l1).toList)
set_option maxHeartbeats 8000000 in
set_option maxRecDepth 100000 in
theorem sapperref01_Same.calls (A0 : Option Addr) (c0 : Nat) (l0 : List Int) (A1 : Option Addr) (c1 : Nat) (l1 : List Int) (r : Bool) (w : World) (hr0 : Kd.C (Kd.int .u8) w A0 l0.length l0) (hc0 : l0.length ≤ c0) (hr1 : Kd.C (Kd.int .u8) w A1 l1.length l1) (hc1 : l1.length ≤ c1) (h : sapperref01_Same.f l0 l1 = some r) :
    Calls Try.prog 25 #[.slice A0 l0.length c0, .slice A1 l1.length c1] w fun e w' => e = .returned (.bool r) ∧ Drawn0 w w' := by
  have HR0 := Aside0.mk hr0
  have HC0 := Aside0.mk hc0
  clear hr0 hc0
  have HR1 := Aside0.mk hr1
  have HC1 := Aside0.mk hc1
  clear hr1 hc1
  have H : (some ((strOfNums l0).toList == (strOfNums l1).toList)) = some r := h
  clear h
  obtain rfl := Option.some.inj H
  have hcv3 := Kd.C_string (P := Try.prog) (A := A0) (c := c0) Try.underlying24 Try.underlying5 Try.underlying9 HR0.out
  have hcv4 := Kd.C_string (P := Try.prog) (A := A1) (c := c1) Try.underlying24 Try.underlying5 Try.underlying9 HR1.out
  go_enter Try.func25, Try.ntmps25
  go_wp2
  go_ret
  exact ⟨by first | rfl | (simp; done) | (simp [*]; done), by repeat (first | exact Drawn0.refl _ | apply Drawn0.step)⟩
end
end Go.Proofs.Ytinlfoblpgpikaa.Pr
namespace Go.Proofs.Ytinlfoblpgpikaa
open Go.RowKit Go.Proofs.YtinlfoblpgpikaaW.PrintWords Go.Proofs.YtinlfoblpgpikaaW.PrintLast Go.Proofs.YtinlfoblpgpikaaW.PrintMore

set_option linter.unusedVariables false
set_option linter.unusedSimpArgs false
/-! ### plain -/
def val : List Int → Int
  | [] => 0
  | x :: xs => x % 128 + 128 * val xs
theorem C_pre {α : Type} {d : Kd α} {w : World} {A : Option Addr} {n : Nat} {xs : List α} (h : d.C w A n xs) (m : Nat) (hm : m ≤ n) : d.C w A m (xs.take m) := by
  obtain rfl := h.1
  have := Kd.C_take h hm
  rwa [List.length_take, Nat.min_eq_left hm] at this

def gb (xs : List Int) (k : Nat) : Int := xs.getD k 0
theorem rd_gb (xs : List Int) (k : Nat) : rd xs (k : Int) = gb xs k := by unfold rd gb; simp
theorem at_byte {ik : IntKind} {w : World} {A : Option Addr} {n : Nat} {xs : List Int} (h : (Kd.int ik).C w A n xs) (k : Nat) (hk : k < n) : ∃ ad, A = some ad ∧ w.cell? (ad.add k) = some (.int ik (gb xs k)) := by
  obtain ⟨ad, e, hc⟩ := Kd.at_int h (k : Int) (by omega) (by omega)
  rw [Int.toNat_natCast, rd_gb] at hc
  exact ⟨ad, e, hc⟩
/-! ### Wrong (35), value (36) -/
/-! ### Read (31) -/
end Go.Proofs.Ytinlfoblpgpikaa
namespace Go.Proofs.Ytinlfoblpgpikaa
open Go.RowKit Go.Proofs.YtinlfoblpgpikaaW.PrintWords Go.Proofs.YtinlfoblpgpikaaW.PrintLast Go.Proofs.YtinlfoblpgpikaaW.PrintMore
set_option linter.unusedVariables false
set_option linter.unusedSimpArgs false

/-- A Taker at block g. -/
def Tkr (w : World) (g : Nat) (v h : Int) : Prop := w.heap[g]? = some (.cells #[.int .u64 v, .int .i64 h] 120 (0, 0))
theorem Tkr.set {w : World} {g : Nat} {v h : Int} (hg : Tkr w g v h) (x : Int) : Tkr (w.setCell ⟨g, 0, none⟩ (.int .u64 x)) g x h := by
  have := blk_set hg 0 (.int .u64 x)
  simpa [Tkr] using this
theorem Tkr.drew {w : World} {g : Nat} {v h : Int} (hg : Tkr w g v h) : Tkr w.drew g v h := hg

/-! ### Take -/
end Go.Proofs.Ytinlfoblpgpikaa
namespace Go.Proofs.Ytinlfoblpgpikaa
open Go.RowKit
set_option linter.unusedVariables false
/-- How a round may end: as the kit has it, or by a panic that the body lets go. -/
def roundPostP (P : Program) (l : Nat) (R : Ending → World → Prop) : Exit → Act → World → Prop
  | .panic chain, a, w => a.defers = [] ∧ R (.panicked chain) w
  | e, a, w => roundPost P l R e a w
theorem round_p {F : Fence} {n : Nat} {P : Program} {l : Nat} {f : FuncId} {fn : Func} {tmps : Array Value} {assign body : Code} {w : World} {R : Ending → World → Prop} (hF : F.fn f) (hf : P.funcs[f]? = some fn)
    (h : assign.wpIn (F.inRound l) n P (Exit.then (fun a₁ w₁ => ∃ w₂, (Instr.beginRound l).run P w₁ = .ok () w₂ ∧ body.wpIn (F.inRound l) n P (roundPostP P l R) a₁ w₂) (fun _ _ _ => False)) { tmps := tmps, defers := [] } w) :
    RoundIn F n P l f tmps assign body w R := by
  refine ⟨hF, fun c cs hr => ?_⟩
  let b : Frame := { (default : Frame) with fn := f, kind := .normal, roundOf := some l }
  have hb0 : Frame.round l f tmps assign body .normal = b.atR { tmps := tmps, defers := [] } [.code assign, .beginRound, .code body] := by
    simp [Frame.round, Frame.atR, b]
  have room : (F.inRound l).room ((c :: cs).length + 1 + n) := hr
  have inF : (F.inRound l).fn b.fn := hF
  obtain ⟨e, a1, w1, hq, arr⟩ := h b [.beginRound, .code body] (c :: cs) rfl inF room
  rw [← hb0] at arr
  cases e with
  | normal =>
    obtain ⟨w2, hbegin, hbody⟩ := hq
    have one : StepsIn (Machine.fenced P (F.inRound l)) P (lone (b.atR a1 [.beginRound, .code body]) (c :: cs) w1) (lone (b.atR a1 [.code body]) (c :: cs) w2) :=
      .one (fenced_calm (fr := b.atR a1 [.beginRound, .code body]) inF room rfl) (stepR_beginRound rfl hbegin)
    have start := StepsIn.trans arr one
    obtain ⟨e2, a2, w3, hq2, arr2⟩ := hbody b [] (c :: cs) rfl inF room
    cases e2 with
    | normal =>
      obtain ⟨v, w4, hend, hR⟩ := hq2
      exact ⟨.returned v, w4, hR, (start.trans arr2).trans (.one (fenced_calm (fr := b.atR a2 []) inF room rfl) (stepR_round_end rfl rfl hend))⟩
    | ret =>
      obtain ⟨v, w4, hend, hR⟩ := hq2
      obtain ⟨k1, hs⟩ := arr2.2 rfl
      exact ⟨.returned v, w4, hR, (start.trans hs).trans (.one (fenced_calm (fr := b.atR a2 (.code .ret :: k1)) inF room rfl) (stepR_round_ret rfl rfl hend))⟩
    | exit id =>
      obtain ⟨v, w4, hend, hR⟩ := hq2
      obtain ⟨k1, hk, hs⟩ := arr2.2 rfl rfl
      exact ⟨.returned v, w4, hR, (start.trans hs).trans (.one (fenced_calm (fr := b.atR a2 (.code (.exit id) :: k1)) inF room rfl) (stepR_round_exit rfl rfl hk hend))⟩
    | goto t =>
      obtain ⟨v, w4, hend, hR⟩ := hq2
      obtain ⟨k1, hk, hs⟩ := arr2.2 rfl rfl
      exact ⟨.returned v, w4, hR, (start.trans hs).trans (.one (fenced_calm (fr := b.atR a2 (.code (.goto t) :: k1)) inF room rfl) (stepR_round_goto rfl rfl hk hend))⟩
    | panic chain =>
      obtain ⟨hd, hR⟩ := hq2
      obtain ⟨todo, hs⟩ := arr2
      have lv : ({ b.atR a2 todo with mode := .panicking chain } : Frame).leaving P w3 (.panicked chain) := ⟨rfl, hd, fn, hf⟩
      exact ⟨.panicked chain, w3, hR, (start.trans hs).trans (.one (fenced_leaving (n := n) inF room lv) (step_leave_panicked lv))⟩
    | outgrown => exact hq2.elim
  | exit id => exact hq.elim
  | goto t => exact hq.elim
  | ret => exact hq.elim
  | panic chain => exact hq.elim
  | outgrown => exact hq.elim

/-! ### The statement -/
/-- Book-keeping: cells lie as they lay, and so does whatever lies below n. -/
structure Bk (n : Nat) (W W' : World) : Prop where
  os : W'.os = W.os
  tape : W'.tape = W.tape
  output : W'.output = W.output
  size : W.heap.size ≤ W'.heap.size
  block : ∀ k o, W.heap[k]? = some o → (o.isCells = true ∨ k < n) → W'.heap[k]? = some o
theorem Bk.refl (n : Nat) (W : World) : Bk n W W := ⟨rfl, rfl, rfl, Nat.le_refl _, fun _ _ h _ => h⟩
theorem Bk.trans {n : Nat} {A B C : World} (h : Bk n A B) (k : Bk n B C) : Bk n A C :=
  ⟨k.os.trans h.os, k.tape.trans h.tape, k.output.trans h.output, Nat.le_trans h.size k.size, fun i o hi hc => k.block i o (h.block i o hi hc) hc⟩
theorem Bk.more {m n : Nat} {A B : World} (h : Bk n A B) (hm : m ≤ n) : Bk m A B := ⟨h.os, h.tape, h.output, h.size, fun i o hi hc => h.block i o hi (hc.imp id fun h => by omega)⟩
theorem Bk.of_below {n : Nat} {A B : World} (h : Below A.heap.size A B) : Bk n A B :=
  ⟨h.os, h.tape, h.output, h.size, fun i o hi _ => (h.block i (Array.getElem?_eq_some_iff.1 hi).1).trans hi⟩
theorem Bk.putObj {n : Nat} {W : World} {l : Nat} {o o' : Obj} (hl : n ≤ l) (h : W.heap[l]? = some o) (hc : o.isCells = false) : Bk n W (W.putObj l o') := by
  refine ⟨rfl, rfl, rfl, by simp, fun k x hk hx => ?_⟩
  by_cases e : k = l
  · subst e
    rw [h] at hk
    cases hk
    rcases hx with hx | hx
    · rw [hc] at hx; cases hx
    · omega
  · exact (World.putObj_heap_other e).trans hk
theorem Bk.below {n : Nat} {w W W' : World} (h : Below n w W) (hn : n ≤ W.heap.size) (b : Bk n W W') : Below n w W' := by
  refine ⟨b.os.trans h.os, b.tape.trans h.tape, b.output.trans h.output, Nat.le_trans h.size b.size, fun k hk => ?_⟩
  rw [← h.block k hk]
  have hlt : k < W.heap.size := by omega
  rw [Array.getElem?_eq_getElem hlt]
  exact b.block k _ (Array.getElem?_eq_getElem hlt) (.inr hk)
/-- How a body may be left. -/
def bodyEnd (I : Nat → World → Prop) (Ix : Code → World → Prop) (Ip : List PanicEntry → World → Prop) (i : Nat) (W : World) : Exit → Act → World → Prop
  | .normal, _, W' => KeepsOthers W W' ∧ I (i + 1) W'
  | .ret, _, W' => KeepsOthers W W' ∧ Ix .ret W'
  | .exit id, _, W' => KeepsOthers W W' ∧ Ix (.exit id) W'
  | .goto t, _, W' => KeepsOthers W W' ∧ Ix (.goto t) W'
  | .panic ch, a, W' => a.defers = [] ∧ KeepsOthers W W' ∧ Ip ch W'
  | .outgrown, _, _ => False
/-- What an iterator's contract says of a call of yield. -/
def RoundGives (J : Nat → World → Prop) (Jx : World → Prop) (Jp : List PanicEntry → World → Prop) (i : Nat) (e : Ending) (W' : World) : Prop :=
  (e = .returned (.bool true) ∧ J (i + 1) W') ∨ (e = .returned (.bool false) ∧ Jx W') ∨ ∃ ch, e = .panicked ch ∧ Jp ch W'
/-- What an iterator's contract says at its end. -/
def IterGives (J : Nat → World → Prop) (Jx : World → Prop) (Jp : List PanicEntry → World → Prop) (N : Nat) (e : Ending) (W' : World) : Prop :=
  (∃ v, e = .returned v ∧ (J N W' ∨ Jx W')) ∨ ∃ ch, e = .panicked ch ∧ Jp ch W'
end Go.Proofs.Ytinlfoblpgpikaa
namespace Go.Proofs.Ytinlfoblpgpikaa
open Go.RowKit Go.Proofs.YtinlfoblpgpikaaW.PrintWords
set_option linter.unusedVariables false
theorem wp_rangeX {F : Fence} {P : Program} {g : Operand} {ps : Array Tmp} {assign body : Code} {Q : Exit → Act → World → Prop} {a : Act} {w : World} (hro : F.round = none) (hd : F.depth = none)
    {gf : Nat} {lb : Array Value} (hg : a.eval g = .func (.func gf) #[] lb) (hgf : F.fn gf) (eg : ∀ args w, (callFunc gf args).run P w = .ok (.enter gf args) w)
    (encs : Nat → Array Value) (hps : ∀ i, (encs i).size = ps.size) (N : Nat) (I : List (Nat × Obj) → Nat → World → Prop) (Ix : Code → World → Prop) (Ip : List PanicEntry → World → Prop)
    (hex : (∀ ch W, ¬ Ip ch W) ∨ ∀ f, F.fn f → ∃ fn, P.funcs[f]? = some fn)
    (hI0 : I [] 0 w) (hI : ∀ X i W W', I X i W → Bk w.heap.size W W' → I X i W') (hG : ∀ X i W o, o.isCells = true → I X i W → I ((W.heap.size, o) :: X) i (W.alloc o)) (hIx : ∀ c W W', Ix c W → Bk w.heap.size W W' → Ix c W') (hIp : ∀ c W W', Ip c W → Bk w.heap.size W W' → Ip c W')
    (hseq : ∀ (l : Nat) (W1 : World) (J : List (Nat × Obj) → Nat → World → Prop) (Jx : World → Prop) (Jp : List PanicEntry → World → Prop), Below w.heap.size w W1 → l < W1.heap.size → w.heap.size ≤ l → (∀ X i W, J X i W → I X i W) → (∀ X i W o, o.isCells = true → J X i W → J ((W.heap.size, o) :: X) i (W.alloc o)) →
      (∀ X i W W', J X i W → Bk W1.heap.size W W' → J X i W') → (∀ W W', Jx W → Bk W1.heap.size W W' → Jx W') → (∀ c W W', Jp c W → Bk W1.heap.size W W' → Jp c W') →
      (∀ X i W, i < N → J X i W → YieldAt F 0 P l (encs i) W (RoundGives (J X) Jx Jp i)) → J [] 0 W1 → CallsIn F 0 P gf (#[.func (.yield l) #[] #[]] ++ lb) W1 (IterGives (fun i W => ∃ X, J X i W) Jx Jp N))
    (hround : ∀ (X : List (Nat × Obj)) (l : Nat) (o : Obj) (i : Nat) (W : World), i < N → I X i W → w.heap.size ≤ l → W.heap[l]? = some o → o.isCells = false → assign.wpIn (F.inRound l) 0 P
      (Exit.then (fun a1 W1 => KeepsOthers W W1 ∧ ∀ W2, Bk w.heap.size W1 W2 → body.wpIn (F.inRound l) 0 P (bodyEnd (I X) Ix Ip i W2) a1 W2) (fun _ _ _ => False))
      { tmps := (ps.zip (encs i)).foldl (fun t (p, v) => t.setIfInBounds p v) a.tmps, defers := [] } W)
    (hdone : ∀ (X : List (Nat × Obj)) (D : Nat) (W : World), w.heap.size ≤ D → I X N W → W.heap[D]? = some (.deferred (some [])) → Q .normal { a with defers := { target := .collected D, args := #[] } :: a.defers } W)
    (hstop : ∀ (D : Nat) (c : Code) (W : World), w.heap.size ≤ D → Ix c W → W.heap[D]? = some (.deferred (some [])) → c.wpIn F 0 P Q { a with defers := { target := .collected D, args := #[] } :: a.defers } W)
    (hpan : ∀ (D : Nat) (ch : List PanicEntry) (W : World), w.heap.size ≤ D → Ip ch W → W.heap[D]? = some (.deferred (some [])) → Q (.panic ch) { a with defers := { target := .collected D, args := #[] } :: a.defers } W) :
    (Code.rangeFunc g ps assign body).wpIn F 0 P Q a w := by
  refine wpIn_rangeFunc ?_
  intro fn hfn
  rw [hro]
  obtain ⟨rec, hrec⟩ : ∃ rec : LoopState → Option Code → Loop, rec = fun st pe => { state := st, pending := pe, fn, tmps := a.tmps, params := ps, assign, body, defers := w.heap.size } := ⟨_, rfl⟩
  obtain ⟨W1, hW1⟩ : ∃ W1, (w.alloc (.deferred (some []))).alloc (.loop (rec .ready none)) = W1 := ⟨_, rfl⟩
  have hsz : W1.heap.size = w.heap.size + 2 := by rw [← hW1]; simp
  have hL : W1.heap[w.heap.size + 1]? = some (.loop (rec .ready none)) := by
    rw [← hW1]
    have := World.alloc_heap_new (w.alloc (.deferred (some []))) (.loop (rec .ready none))
    rwa [World.size_alloc] at this
  have hD : W1.heap[w.heap.size]? = some (.deferred (some [])) := by
    rw [← hW1]
    exact (Below.heap_alloc _ _ _ (by simp)).trans (World.alloc_heap_new w _)
  have hb : Below w.heap.size w W1 := by rw [← hW1]; exact ((Below.refl _ w).alloc (Nat.le_refl _) _).alloc (by simp) _
  refine ⟨w.heap.size + 1, [{ target := .collected w.heap.size, args := #[] }], W1, { target := .fn (.func gf) lb, args := #[.func (.yield (w.heap.size + 1)) #[] #[]] }, W1, gf, #[.func (.yield (w.heap.size + 1)) #[] #[]] ++ lb, W1, ?_, ?_, ?_, ?_, ?_, ?_⟩
  · rw [← hW1, hrec]
    exact run_enterLoop_outer _ _ _ _ _
  · simp only [resolve, hg]
    simp [go_sem]
  · intro f hf
    simp [Target.leads] at hf
    subst hf
    exact hgf
  · simp [invoke, go_sem, eg]
  · rw [hd]
    intro h
    cases h
  -- the iterator's contract, the record and the block for deferred calls beside the caller's own words
  · let J : List (Nat × Obj) → Nat → World → Prop := fun X i W => I X i W ∧ W.heap[w.heap.size + 1]? = some (.loop (rec .ready none)) ∧ W.heap[w.heap.size]? = some (.deferred (some []))
    let Jx : World → Prop := fun W => ∃ c, Ix c W ∧ W.heap[w.heap.size + 1]? = some (.loop (rec .done (some c))) ∧ W.heap[w.heap.size]? = some (.deferred (some []))
    let Jp : List PanicEntry → World → Prop := fun ch W => Ip ch W ∧ W.heap[w.heap.size]? = some (.deferred (some []))
    have turn : ∀ {W W' : World}, Bk W1.heap.size W W' → Bk w.heap.size W W' := fun h => h.more (by omega)
    refine (hseq (w.heap.size + 1) W1 J Jx Jp hb (by omega) (by omega) (fun X i W h => h.1) (fun X i W o ho h => ⟨hG X i W o ho h.1, blk_alloc h.2.1 o, blk_alloc h.2.2 o⟩)
      (fun X i W W' h k => ⟨hI X i W W' h.1 (turn k), k.block _ _ h.2.1 (.inr (by omega)), k.block _ _ h.2.2 (.inr (by omega))⟩)
      (fun W W' h k => by obtain ⟨c, h1, h2, h3⟩ := h; exact ⟨c, hIx c W W' h1 (turn k), k.block _ _ h2 (.inr (by omega)), k.block _ _ h3 (.inr (by omega))⟩)
      (fun c W W' h k => ⟨hIp c W W' h.1 (turn k), k.block _ _ h.2 (.inr (by omega))⟩) ?_ ⟨hI [] 0 w W1 hI0 (.of_below hb), hL, hD⟩).mono ?_
    · -- a round
      rintro X i W hi ⟨h1, h2, h3⟩
      have hlt := (Array.getElem?_eq_some_iff.1 h2).1
      have hy := run_yield (P := P) (args := encs i) h2 (by rw [hrec]; exact hps i)
      rw [hrec] at hy
      refine ⟨fn, _, assign, body, hy, ?_⟩
      have hR := hround X (w.heap.size + 1) _ i W hi h1 (by omega) h2 rfl
      have core : ∀ (T : Exit → Act → World → Prop), (∀ e a' W4 W2, W2.heap[w.heap.size + 1]? = some (.loop { rec .ready none with state := .busy }) → W2.heap[w.heap.size]? = some (.deferred (some [])) → bodyEnd (I X) Ix Ip i W2 e a' W4 → T e a' W4) →
          assign.wpIn (F.inRound (w.heap.size + 1)) 0 P (Exit.then (fun a₁ w₁ => ∃ w₂, (Instr.beginRound (w.heap.size + 1)).run P w₁ = .ok () w₂ ∧ body.wpIn (F.inRound (w.heap.size + 1)) 0 P T a₁ w₂) (fun _ _ _ => False)) { tmps := (ps.zip (encs i)).foldl (fun t (p, v) => t.setIfInBounds p v) a.tmps, defers := [] } W := by
        intro T hT
        refine wpIn_mono hR fun e a1 W3 hq => ?_
        cases e with
        | normal =>
          obtain ⟨hk, hb3⟩ := hq
          have h2' := hk.same _ _ h2 rfl
          have h3' := hk.same _ _ h3 rfl
          refine ⟨_, run_beginRound h2' (by rw [hrec]), wpIn_mono (hb3 _ (Bk.putObj (by omega) h2' rfl)) fun e a' W4 hq4 => hT e a' W4 _ ?_ ?_ hq4⟩
          · exact World.putObj_heap_same (Array.getElem?_eq_some_iff.1 h2').1
          · exact (World.putObj_heap_other (by omega)).trans h3'
        | ret => exact hq.elim
        | exit id => exact hq.elim
        | goto t => exact hq.elim
        | panic ch => exact hq.elim
        | outgrown => exact hq.elim
      have fin : ∀ (jump : Option Code) (W2 W4 : World), W2.heap[w.heap.size + 1]? = some (.loop { rec .ready none with state := .busy }) → W2.heap[w.heap.size]? = some (.deferred (some [])) → KeepsOthers W2 W4 →
          (Instr.endRound (w.heap.size + 1) jump).run P W4 = .ok (.bool jump.isNone) (W4.putObj (w.heap.size + 1) (.loop (rec (if jump.isNone then .ready else .done) jump))) ∧
          Bk w.heap.size W4 (W4.putObj (w.heap.size + 1) (.loop (rec (if jump.isNone then .ready else .done) jump))) ∧
          (W4.putObj (w.heap.size + 1) (.loop (rec (if jump.isNone then .ready else .done) jump))).heap[w.heap.size + 1]? = some (.loop (rec (if jump.isNone then .ready else .done) jump)) ∧
          (W4.putObj (w.heap.size + 1) (.loop (rec (if jump.isNone then .ready else .done) jump))).heap[w.heap.size]? = some (.deferred (some [])) := by
        intro jump W2 W4 k2 k3 hk
        have k2' := hk.same _ _ k2 rfl
        have k3' := hk.same _ _ k3 rfl
        have hr := run_endRound (P := P) jump k2'
        refine ⟨?_, Bk.putObj (by omega) k2' rfl, World.putObj_heap_same (Array.getElem?_eq_some_iff.1 k2').1, (World.putObj_heap_other (by omega)).trans k3'⟩
        rw [hrec] at hr ⊢
        exact hr
      have ends : ∀ e a' W4 W2, W2.heap[w.heap.size + 1]? = some (.loop { rec .ready none with state := .busy }) → W2.heap[w.heap.size]? = some (.deferred (some [])) → bodyEnd (I X) Ix Ip i W2 e a' W4 → (∀ ch, e ≠ .panic ch) →
          roundPost P (w.heap.size + 1) (RoundGives (J X) Jx Jp i) e a' W4 := by
        intro e a' W4 W2 k2 k3 hq hnp
        cases e with
        | normal =>
          obtain ⟨hk, hi4⟩ := hq
          obtain ⟨r1, r2, r3, r4⟩ := fin none W2 W4 k2 k3 hk
          exact ⟨_, _, r1, .inl ⟨rfl, hI _ _ _ _ hi4 r2, r3, r4⟩⟩
        | ret =>
          obtain ⟨hk, hi4⟩ := hq
          obtain ⟨r1, r2, r3, r4⟩ := fin (some .ret) W2 W4 k2 k3 hk
          exact ⟨_, _, r1, .inr (.inl ⟨rfl, _, hIx _ _ _ hi4 r2, r3, r4⟩)⟩
        | exit id =>
          obtain ⟨hk, hi4⟩ := hq
          obtain ⟨r1, r2, r3, r4⟩ := fin (some (.exit id)) W2 W4 k2 k3 hk
          exact ⟨_, _, r1, .inr (.inl ⟨rfl, _, hIx _ _ _ hi4 r2, r3, r4⟩)⟩
        | goto t =>
          obtain ⟨hk, hi4⟩ := hq
          obtain ⟨r1, r2, r3, r4⟩ := fin (some (.goto t)) W2 W4 k2 k3 hk
          exact ⟨_, _, r1, .inr (.inl ⟨rfl, _, hIx _ _ _ hi4 r2, r3, r4⟩)⟩
        | panic ch => exact absurd rfl (hnp ch)
        | outgrown => exact hq.elim
      rcases hex with hex | hex
      · refine roundIn_of_wpIn hfn (core _ fun e a' W4 W2 k2 k3 hq => ends e a' W4 W2 k2 k3 hq ?_)
        rintro ch rfl
        exact hex _ _ hq.2.2
      · obtain ⟨f, hf⟩ := hex fn hfn
        refine round_p hfn hf (core _ fun e a' W4 W2 k2 k3 hq => ?_)
        cases e with
        | panic ch =>
          obtain ⟨q1, q2, q3⟩ := hq
          exact ⟨q1, .inr (.inr ⟨ch, rfl, q3, q2.same _ _ k3 rfl⟩)⟩
        | normal => exact ends _ a' W4 W2 k2 k3 hq (by simp)
        | ret => exact ends _ a' W4 W2 k2 k3 hq (by simp)
        | exit id => exact ends _ a' W4 W2 k2 k3 hq (by simp)
        | goto t => exact ends _ a' W4 W2 k2 k3 hq (by simp)
        | outgrown => exact hq.elim
    · -- behind the iterator
      rintro e W2 (⟨v, rfl, (⟨X, h1, h2, h3⟩ | ⟨c, h1, h2, h3⟩)⟩ | ⟨ch, rfl, h1, h3⟩)
      · have hr := run_endLoop (P := P) h2 (by rw [hrec]; simp)
        obtain ⟨o', ho'⟩ : ∃ o', (Instr.endLoop (w.heap.size + 1)).run P W2 = .ok none (W2.putObj (w.heap.size + 1) o') := ⟨_, by rw [hrec] at hr; exact hr⟩
        exact ⟨none, _, ho', hdone X _ _ (Nat.le_refl _) (hI _ _ _ _ h1 (Bk.putObj (by omega) h2 rfl)) ((World.putObj_heap_other (by omega)).trans h3)⟩
      · have hr := run_endLoop (P := P) h2 (by rw [hrec]; simp)
        obtain ⟨o', ho'⟩ : ∃ o', (Instr.endLoop (w.heap.size + 1)).run P W2 = .ok (some c) (W2.putObj (w.heap.size + 1) o') := ⟨_, by rw [hrec] at hr; exact hr⟩
        exact ⟨some c, _, ho', hstop _ c _ (Nat.le_refl _) (hIx _ _ _ h1 (Bk.putObj (by omega) h2 rfl)) ((World.putObj_heap_other (by omega)).trans h3)⟩
      · exact hpan _ ch _ (Nat.le_refl _) h1 h3
end Go.Proofs.Ytinlfoblpgpikaa
namespace Go.Proofs.Ytinlfoblpgpikaa
open Go.RowKit Go.Proofs.YtinlfoblpgpikaaW.PrintWords Go.Proofs.YtinlfoblpgpikaaW.PrintLast
set_option linter.unusedVariables false
def calmOp : Op → Bool
  | .move _ | .assign _ | .load .. | .store .. | .fieldAddr .. | .indexAddr .. | .binOp .. | .unOp .. | .buildSlice .. | .build .. | .slice .. | .extract .. | .alloc .. | .box .. | .nilCheck .. | .pick .. | .makeInterface .. => true
  | .call c => match c.callee with | .builtin .append => true | .builtin .len => true | _ => false
  | _ => false
/-- It yields a value, or nothing, or stops. -/
def NV (m : Sem Next) : Prop := ∀ P w, (∃ v w', Sem.run P m w = .ok (.value v) w') ∨ (∃ w', Sem.run P m w = .ok .skip w') ∨ ∃ h w', Sem.run P m w = .halt h w'
theorem NV.val (v : Value) : NV (pure (.value v)) := fun _ _ => .inl ⟨_, _, rfl⟩
theorem NV.bind {α : Type} (m : Sem α) {f : α → Sem Next} (hf : ∀ a, NV (f a)) : NV (m >>= f) := by
  intro P w
  rw [Sem.run_bind]
  cases Sem.run P m w with
  | ok a w' => exact hf a P w'
  | halt h w' => exact .inr (.inr ⟨h, w', rfl⟩)
theorem NV.of_form {x : Sem Next} (h : ∃ m : Sem Value, x = (do pure (.value (← m)))) : NV x := by
  obtain ⟨m, rfl⟩ := h
  exact NV.bind _ fun v => NV.val _
theorem NV.goPanic (v : Value) : NV (goPanic v) := fun _ _ => .inr (.inr ⟨_, _, rfl⟩)
theorem NV.runtime (e : RuntimeError) : NV (runtimePanic e) := by
  unfold runtimePanic
  refine NV.bind _ fun p => ?_
  cases e <;> first | exact NV.goPanic _ | exact NV.bind _ fun _ => NV.bind _ fun _ => NV.goPanic _
theorem calm_form (ρ : Operand → Value) (o : Oper) (h : calmOp o.op = true) : NV (execOp ρ o) := by
  obtain ⟨dst, op, ty, pos, after, guard⟩ := o
  cases op <;> simp only [calmOp] at h <;> try (exact absurd h (by decide))
  case pick c a b => exact NV.bind _ fun b => NV.val _
  case nilCheck x =>
    unfold execOp
    simp only
    split
    · exact NV.runtime _
    · exact NV.runtime _
    · exact NV.runtime _
    · split
      · exact NV.runtime _
      · refine NV.bind _ fun p => NV.bind _ fun q => ?_
        split
        all_goals first | exact NV.val _ | exact NV.bind _ fun _ => NV.val _
      · exact NV.val _
    · exact NV.val _
  all_goals first
    | exact NV.val _
    | exact NV.bind _ fun v => NV.val _
    | exact NV.bind _ fun _ => fun _ _ => .inr (.inl ⟨_, rfl⟩)
    | skip
  rename_i c
  obtain ⟨callee, args, ats⟩ := c
  cases callee with
  | builtin b =>
    cases b <;> first
      | (simp at h; done)
      | exact NV.of_form ⟨_, rfl⟩
  | _ => simp at h
theorem calm_about (P : Program) (w : World) (ρ : Operand → Value) (o : Oper) (h : calmOp o.op = true) : o.about P w ρ = none := by
  obtain ⟨dst, op, ty, pos, after, guard⟩ := o
  cases op <;> simp only [calmOp] at h <;> first | rfl | skip
  all_goals try (exact absurd h (by decide))
  rename_i c
  obtain ⟨callee, args, ats⟩ := c
  cases callee with
  | builtin b => rfl
  | _ => simp at h
theorem calm_wpIn {F : Fence} {n : Nat} {P : Program} {o : Oper} {a : Act} {w : World} {K : Act → World → Prop} {Q : Exit → Act → World → Prop} (h : calmOp o.op = true) (hw : o.wp P a w K Q) : o.wpIn F n P a w K Q := by
  refine ⟨fun f hf => (by rw [calm_about P w a.eval o h] at hf; cases hf), ?_⟩
  rw [Oper.semAt_eq _ _ _ (by intro c hc; rw [hc] at h; cases h)]
  unfold Oper.wp at hw
  rcases calm_form a.eval o h P w with ⟨v, w', e⟩ | ⟨w', e⟩ | ⟨v, w', e⟩
  · rw [e] at hw ⊢
    exact hw
  · rw [e] at hw ⊢
    exact hw
  · rw [e] at hw ⊢
    cases v <;> exact hw
theorem anyIn_of_any {F : Fence} {n : Nat} {P : Program} {md : Region.Mode} {ops : Array Oper} {Q : Exit → Act → World → Prop} (hc : ops.all (fun o => calmOp o.op) = true) (hnl : ¬ LetsOut Q) :
    ∀ (fuel : Nat) (listed : Array Bool) (a : Act) (w : World), wpAny P md ops Q fuel listed a w → wpAnyIn F n P md ops Q fuel listed a w
  | 0, _, _, _, h => h
  | fuel + 1, listed, a, w, h => ⟨h.1, fun i hi => by
    have hw := h.2 i hi
    unfold wpOp at hw
    unfold wpOpIn
    cases ho : ops[i]? with
    | none => rw [ho] at hw; exact anyIn_of_any hc hnl fuel _ a w hw
    | some o =>
      rw [ho] at hw
      simp only at hw ⊢
      have hco : calmOp o.op = true := by
        obtain ⟨hlt, e⟩ := Array.getElem?_eq_some_iff.1 ho
        have := Array.all_eq_true.1 hc i hlt
        rw [e] at this
        exact this
      by_cases hwd : Region.wanted o (yielded ops a.tmps) = true
      · rw [if_pos hwd] at hw ⊢
        rcases hw with hw | hw
        · exact calm_wpIn hco (Oper.wp_mono (fun a w h => anyIn_of_any hc hnl fuel _ a w h) hw)
        · exact absurd hw.2 hnl
      · rw [if_neg hwd] at hw ⊢
        exact ⟨fun f hf => (by rw [calm_about P w a.eval o hco] at hf; cases hf), anyIn_of_any hc hnl fuel _ _ w hw⟩⟩
theorem startIn_ {F : Fence} {m : Nat} {P : Program} {ops : Array Oper} {Q : Exit → Act → World → Prop} {S : World → Prop} {ds : List Nat} {id n : Nat} {a : Act} {w : World} (hc : ops.all (fun o => calmOp o.op) = true) (hnl : ¬ LetsOut Q) (l : Array Bool) (hm : P.follows .mixedOrders = true) (hn : ops.size = n) (hl : Array.replicate n false = l) (hS : S w.drew)
    (h : S w.drew → wpAnyLast P .any ops Q S ds n l a w.drew) : (Code.region id ops true).wpIn F m P Q a w := by
  subst hn
  subst hl
  exact wpIn_region_any hm (anyIn_of_any hc hnl _ _ _ _ (wpAny_of_last _ _ _ _ (h hS)))
end Go.Proofs.Ytinlfoblpgpikaa
