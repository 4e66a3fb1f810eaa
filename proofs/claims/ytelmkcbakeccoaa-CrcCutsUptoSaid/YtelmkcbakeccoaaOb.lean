/- crc: slices of bytes: owned, read; compared (num's words, for this seat). -/
import Derived.Test.YtelmkcbakeccoaaAp
import Derived.WalkSpells
import Derived.Test.YtelmkcbakeccoaaRd
import Derived.OpenShut
namespace Go.Proofs.Ytelmkcbakeccoaa
open Go.RowKit Go.Proofs.YtelmkcbakeccoaaW.PrintWords Go.Proofs.YtelmkcbakeccoaaW.PrintLast Go.Proofs.YtelmkcbakeccoaaW.PrintMore
set_option linter.unusedVariables false
set_option linter.unusedSimpArgs false

theorem eltB : Elt Try.prog 23 5 (.int .u8 0) 1 1 := ⟨Try.underlying23, by kernel_rfl, rfl, by decide, by decide⟩
/-- v is a slice of bytes of the call's own: xs. -/
abbrev OB (w : World) (base : Nat) (v : Value) (xs : List Int) : Prop := w.ownsRow base 5 1 v xs.length (nums .u8 xs)
theorem OB.snoc {w : World} {base : Nat} {v : Value} {xs ys : List Int} {n : Nat} (h : w.ownsRow base 5 1 v n (nums .u8 xs ++ nums .u8 ys)) (hn : n = xs.length + ys.length) : OB w base v (xs ++ ys) := by
  rw [OB, nums_append, List.length_append, ← hn]
  exact h

theorem own_C {w : World} {base : Nat} {e : TypeId} {k : IntKind} {v : Value} {xs : List Int} (h : w.ownsRow base e 1 v xs.length (nums k xs)) : ∃ A c, v = .slice A xs.length c ∧ xs.length ≤ c ∧ (Kd.int k).C w A xs.length xs := by
  obtain ⟨A, c, rfl, hr⟩ := own_reads h
  exact ⟨A, c, rfl, own_cap h, Kd.C_of_reads (d := (0 : Int)) (h1 := fun _ => rfl) hr⟩
theorem mem_take {p : Int → Prop} {xs : List Int} (h : ∀ x ∈ xs, p x) (m : Nat) : ∀ x ∈ xs.take m, p x := fun x hx => h x (List.mem_of_mem_take hx)
/-- A slice of bytes that is read. -/
structure Bs (w : World) (A : Option Addr) (n c : Nat) (xs : List Int) : Prop where
  C : (Kd.int .u8).C w A n xs
  hc : n ≤ c
  hr : ∀ x ∈ xs, 0 ≤ x ∧ x ≤ 255
theorem Bs.below {w w' : World} {A : Option Addr} {n c : Nat} {xs : List Int} (h : Bs w A n c xs) (hb : Below w.heap.size w w') : Bs w' A n c xs := ⟨Kd.C_below h.C hb, h.hc, h.hr⟩
theorem Bs.len {w : World} {A : Option Addr} {n c : Nat} {xs : List Int} (h : Bs w A n c xs) : xs.length = n := h.C.1
theorem OB.bs {w : World} {base : Nat} {v : Value} {xs : List Int} (h : OB w base v xs) (hr : ∀ x ∈ xs, 0 ≤ x ∧ x ≤ 255) : ∃ A c, v = .slice A xs.length c ∧ Bs w A xs.length c xs := by
  obtain ⟨A, c, e, h1, h2⟩ := own_C h
  exact ⟨A, c, e, h2, h1, hr⟩
theorem Bs.pre {w : World} {A : Option Addr} {n c : Nat} {xs : List Int} (h : Bs w A n c xs) (m : Nat) (hm : m ≤ n) : Bs w A m c (xs.take m) :=
  ⟨C_pre h.C m hm, Nat.le_trans hm h.hc, mem_take h.hr m⟩

theorem strOf_inj : ∀ {xs ys : List Int}, (∀ x ∈ xs, 0 ≤ x ∧ x ≤ 255) → (∀ x ∈ ys, 0 ≤ x ∧ x ≤ 255) → xs.map (fun n => UInt8.ofNat n.toNat) = ys.map (fun n => UInt8.ofNat n.toNat) → xs = ys
  | [], [], _, _, _ => rfl
  | [], y :: ys, _, _, h => by simp at h
  | x :: xs, [], _, _, h => by simp at h
  | x :: xs, y :: ys, hx, hy, h => by
    simp only [List.map_cons, List.cons.injEq] at h
    have h1 := hx x List.mem_cons_self
    have h2 := hy y List.mem_cons_self
    have e := congrArg UInt8.toNat h.1
    simp only [UInt8.toNat_ofNat'] at e
    rw [strOf_inj (fun z hz => hx z (List.mem_cons_of_mem _ hz)) (fun z hz => hy z (List.mem_cons_of_mem _ hz)) h.2]
    congr 1
    omega
theorem strOf_eq {xs ys : List Int} (hx : ∀ x ∈ xs, 0 ≤ x ∧ x ≤ 255) (hy : ∀ x ∈ ys, 0 ≤ x ∧ x ≤ 255) : ((strOfNums xs).toList == (strOfNums ys).toList) = decide (xs = ys) := by
  rw [Bool.eq_iff_iff, beq_iff_eq, decide_eq_true_iff]
  constructor
  · intro h
    have h' : (strOfNums xs).data.toList = (strOfNums ys).data.toList := by
      have e : ∀ s : ByteArray, s.toList = s.data.toList := ByteArray.toList_eq
      rw [← e, ← e, h]
    rw [strOfNums_data, strOfNums_data] at h'
    exact strOf_inj hx hy h'
  · rintro rfl
    rfl

set_option maxHeartbeats 400000 in
theorem same_calls (A : Option Addr) (n c : Nat) (xs : List Int) (B : Option Addr) (m d : Nat) (ys : List Int) (w : World) (hx : Bs w A n c xs) (hy : Bs w B m d ys) :
    Calls Try.prog 19 #[.slice A n c, .slice B m d] w fun e w' => e = .returned (.bool (decide (xs = ys))) ∧ w' = w := by
  have hcv3 := Kd.C_string (P := Try.prog) (A := A) (c := c) Try.underlying23 Try.underlying5 Try.underlying9 hx.C
  have hcv4 := Kd.C_string (P := Try.prog) (A := B) (c := d) Try.underlying23 Try.underlying5 Try.underlying9 hy.C
  have HE := Hd.mk (strOf_eq hx.hr hy.hr)
  clear hx hy
  go_enter Try.func19, Try.ntmps19
  go_wp2
  go_ret
  exact ⟨by rw [← HE.out]; exact rfl, rfl⟩

def IsRow (k : IntKind) (w : World) (a : Option Addr) (len cap : Nat) (zs : List Int) : Prop :=
  (a = none ∧ len = 0 ∧ cap = 0 ∧ zs = []) ∨
  ∃ x, a = some x ∧ len ≤ cap ∧ cap ≤ maxLen ∧ zs.length = cap ∧ (∀ i, i < zs.length → w.cell? (x.add i) = some (.int k (zs.getD i 0))) ∧ ∀ n ∈ zs, (Lit.int k n).wf = true
theorem IsRow.reads {k : IntKind} {w : World} {a : Option Addr} {len cap : Nat} {zs : List Int} (h : IsRow k w a len cap zs) :
    ∃ xs, (Kd.int k).C w a len xs ∧ len ≤ cap ∧ ∀ x ∈ xs, (Lit.int k x).wf = true := by
  obtain ⟨l0, e, hr0, hm0, hw0, hc0⟩ := ReadsInt.ofRowC h
  subst e
  exact ⟨l0, Kd.C_of_reads (d := (0 : Int)) (h1 := fun _ => rfl) hr0, hc0, hw0⟩
theorem IsRow.bytes {w : World} {a : Option Addr} {len cap : Nat} {zs : List Int} (h : IsRow .u8 w a len cap zs) : ∃ xs, Bs w a len cap xs := by
  obtain ⟨xs, hC, hc, hr⟩ := h.reads
  exact ⟨xs, hC, hc, fun x hx => bounds_u8 (hr x hx)⟩
theorem OB.below {w w' : World} {base : Nat} {v : Value} {xs : List Int} (h : OB w base v xs) (hb : Below w.heap.size w w') : OB w' base v xs := pw_own_below h hb
theorem below_app {w0 w w' : World} {base : Nat} {e : TypeId} {size n : Nat} {v : Value} {xs : List Value} (hb : Below w0.heap.size w0 w) (ho : w.ownsRow base e size v n xs) (hg : w.grownBy w' v.ownBlock) (hbase : w0.heap.size ≤ base) : Below w0.heap.size w0 w' :=
  hb.grown hg hb.size (fun k hk => Nat.le_trans hbase (own_base ho k hk))

theorem OB.bs1 {w : World} {base c : Nat} {A : Option Addr} {xs : List Int} (h : OB w base (.slice A xs.length c) xs) (hr : ∀ x ∈ xs, 0 ≤ x ∧ x ≤ 255) : Bs w A xs.length c xs := by
  obtain ⟨A', c', e, hb⟩ := OB.bs h hr
  cases e
  exact hb
theorem same_yes (A : Option Addr) (n c : Nat) (xs : List Int) (B : Option Addr) (m d : Nat) (w : World) (hx : Bs w A n c xs) (hy : Bs w B m d xs) :
    Calls Try.prog 19 #[.slice A n c, .slice B m d] w fun e w' => e = .returned (.bool true) ∧ w' = w :=
  (same_calls A n c xs B m d xs w hx hy).mono fun e w' ⟨h1, h2⟩ => ⟨by rw [h1]; simp, h2⟩

/-- append([]byte(nil), p...): a copy. -/
theorem wpList_copy {w : World} {ops : Array Oper} {rest : List Oper} {o : Oper} {a : Act} {Q : Exit → Act → World → Prop} (hgd : o.guard = none) (s x : Operand)
    (ho : o.op = .call { callee := .builtin .append, args := #[s, x], argTypes := #[23, 23] })
    {A : Option Addr} {m c : Nat} {xs : List Int} (hs : a.eval s = .slice none 0 0) (hx : a.eval x = .slice A m c) (hB : Bs w A m c xs) (hfit : m ≤ 140737488351232)
    (h : ∀ A' c' w', Hd (OB w' w.heap.size (.slice A' m c') xs) → Hd (Bs w' A' m c' xs) → Hd (Below w.heap.size w w') → wpList Try.prog ops Q rest (a.put o.dst (.slice A' m c')) w') :
    wpList Try.prog ops Q (o :: rest) a w := by
  have hl := hB.len
  refine wpList_app hgd s x _ ho w.heap.size eltB (v := .slice none 0 0) (n := 0) (m := m) (xs := nums .u8 []) hs hx (own_nil _ _ _ _) (Src.of_C hB.C) (by omega) (Nat.le_refl _) ?_
  intro v' w' h1 h2 _ _
  have hO : OB w' w.heap.size v' xs := OB.snoc (xs := []) h1.out (by simp [hl])
  obtain ⟨A', c', rfl, hb⟩ := OB.bs hO hB.hr
  rw [hl] at hb
  rw [hl]
  refine h A' c' w' ⟨?_⟩ ⟨hb⟩ ⟨(Below.refl _ _).grown h2.out (Nat.le_refl _) (fun k e => by cases e)⟩
  rw [← hl]
  exact hO
end Go.Proofs.Ytelmkcbakeccoaa
