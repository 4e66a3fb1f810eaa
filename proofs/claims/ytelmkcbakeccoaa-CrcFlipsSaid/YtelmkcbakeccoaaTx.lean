/- crc: three turned bits: the low 31 bits of the first 91631 powers of x are all different: reckoned by the kernel, in a binary trie; that the reckoning is sound. -/
import Derived.Test.YtelmkcbakeccoaaFp
namespace Go.Proofs.Ytelmkcbakeccoaa
set_option linter.unusedVariables false
namespace Tri
inductive T where | nil | leaf (v : Nat) | node (l r : T)
/-- with a number reckoned -/
noncomputable def fo (n : Nat) (f : Nat → Bool) : Bool := Nat.rec (motive := fun _ => Bool) (f 0) (fun m _ => f (Nat.succ m)) n
/-- by a number's lowest bit -/
noncomputable def lo (n : Nat) (x y : Bool) : Bool := Nat.rec (motive := fun _ => Bool) x (fun _ _ => y) (Nat.land n 1)
noncomputable def two (n : Nat) : Nat → Nat → (T → Bool) → Bool :=
  Nat.rec (motive := fun _ => Nat → Nat → (T → Bool) → Bool) (fun _ _ _ => false)
    (fun _ ih a b k => fo (Nat.shiftRight a 1) fun a' => fo (Nat.shiftRight b 1) fun b' =>
      lo a (lo b (ih a' b' fun t => k (.node t .nil)) (k (.node (.leaf a') (.leaf b')))) (lo b (k (.node (.leaf b') (.leaf a'))) (ih a' b' fun t => k (.node .nil t)))) n
noncomputable def ins (t : T) : Nat → (T → Bool) → Bool :=
  T.rec (motive := fun _ => Nat → (T → Bool) → Bool) (fun a k => k (.leaf a)) (fun b a k => two 32 a b k)
    (fun l r il ir a k => fo (Nat.shiftRight a 1) fun a' => lo a (il a' fun t => k (.node t r)) (ir a' fun t => k (.node l t))) t
def st (x : Nat) : Nat := Nat.xor (Nat.shiftRight x 1) (Nat.mul (Nat.land x 1) 0xedb88320)
def ky (y : Nat) : Nat := Nat.shiftRight (Nat.land y 0x7fffffff) 3
noncomputable def loop (c : Nat) (n : Nat) : Nat → T → Bool :=
  Nat.rec (motive := fun _ => Nat → T → Bool) (fun _ _ => true)
    (fun _ ih x t => fo (st x) fun y =>
      Bool.rec (motive := fun _ => Bool) (ih y t) (fo (ky y) fun a => ins t a fun t' => ih y t') (Nat.beq (Nat.land y 7) c)) n

theorem fo_eq (n : Nat) (f : Nat → Bool) : fo n f = f n := by cases n <;> rfl
theorem land_one (n : Nat) : Nat.land n 1 = n % 2 := Nat.and_one_is_mod n
theorem lo_eq (n : Nat) (x y : Bool) : lo n x y = if n % 2 = 0 then x else y := by
  unfold lo
  rw [land_one]
  rcases Nat.mod_two_eq_zero_or_one n with h | h <;> rw [h] <;> rfl
theorem shr_one (a : Nat) : Nat.shiftRight a 1 = a / 2 := Nat.shiftRight_eq_div_pow a 1
def mem : T → Nat → Prop
  | .nil, _ => False
  | .leaf v, a => a = v
  | .node l r, a => if a % 2 = 0 then mem l (a / 2) else mem r (a / 2)
theorem two_succ (n a b : Nat) (k : T → Bool) : two (n + 1) a b k =
    if a % 2 = 0 then (if b % 2 = 0 then two n (a / 2) (b / 2) fun t => k (.node t .nil) else k (.node (.leaf (a / 2)) (.leaf (b / 2))))
    else (if b % 2 = 0 then k (.node (.leaf (b / 2)) (.leaf (a / 2))) else two n (a / 2) (b / 2) fun t => k (.node .nil t)) := by
  have e : two (n + 1) a b k = fo (Nat.shiftRight a 1) fun a' => fo (Nat.shiftRight b 1) fun b' =>
      lo a (lo b (two n a' b' fun t => k (.node t .nil)) (k (.node (.leaf a') (.leaf b')))) (lo b (k (.node (.leaf b') (.leaf a'))) (two n a' b' fun t => k (.node .nil t))) := rfl
  rw [e, fo_eq, fo_eq, lo_eq, lo_eq, lo_eq, shr_one, shr_one]
theorem two_sound : ∀ (n a b : Nat) (k : T → Bool), two n a b k = true → a ≠ b ∧ ∃ t, k t = true ∧ mem t a ∧ mem t b
  | 0, a, b, k, h => by cases h
  | n + 1, a, b, k, h => by
    rw [two_succ] at h
    by_cases ha : a % 2 = 0 <;> by_cases hb : b % 2 = 0
    · rw [if_pos ha, if_pos hb] at h
      obtain ⟨h1, t, h2, h3, h4⟩ := two_sound n _ _ _ h
      exact ⟨by rintro rfl; exact h1 rfl, _, h2, by rw [mem, if_pos ha]; exact h3, by rw [mem, if_pos hb]; exact h4⟩
    · rw [if_pos ha, if_neg hb] at h
      exact ⟨by rintro rfl; exact hb ha, _, h, by rw [mem, if_pos ha]; rfl, by rw [mem, if_neg hb]; rfl⟩
    · rw [if_neg ha, if_pos hb] at h
      exact ⟨by rintro rfl; exact ha hb, _, h, by rw [mem, if_neg ha]; rfl, by rw [mem, if_pos hb]; rfl⟩
    · rw [if_neg ha, if_neg hb] at h
      obtain ⟨h1, t, h2, h3, h4⟩ := two_sound n _ _ _ h
      exact ⟨by rintro rfl; exact h1 rfl, _, h2, by rw [mem, if_neg ha]; exact h3, by rw [mem, if_neg hb]; exact h4⟩
theorem ins_node (l r : T) (a : Nat) (k : T → Bool) : ins (.node l r) a k = if a % 2 = 0 then ins l (a / 2) (fun t => k (.node t r)) else ins r (a / 2) (fun t => k (.node l t)) := by
  have e : ins (.node l r) a k = fo (Nat.shiftRight a 1) fun a' => lo a (ins l a' fun t => k (.node t r)) (ins r a' fun t => k (.node l t)) := rfl
  rw [e, fo_eq, lo_eq, shr_one]
theorem ins_sound : ∀ (t : T) (a : Nat) (k : T → Bool), ins t a k = true → ¬ mem t a ∧ ∃ t', k t' = true ∧ mem t' a ∧ ∀ x, mem t x → mem t' x
  | .nil, a, k, h => ⟨fun h => h, _, h, rfl, fun x h => h.elim⟩
  | .leaf b, a, k, h => by
    obtain ⟨h1, t, h2, h3, h4⟩ := two_sound 32 a b k h
    exact ⟨h1, t, h2, h3, fun x hx => by rw [mem] at hx; subst hx; exact h4⟩
  | .node l r, a, k, h => by
    rw [ins_node] at h
    by_cases ha : a % 2 = 0
    · rw [if_pos ha] at h
      obtain ⟨h1, t, h2, h3, h4⟩ := ins_sound l _ _ h
      refine ⟨by rw [mem, if_pos ha]; exact h1, _, h2, by rw [mem, if_pos ha]; exact h3, fun x hx => ?_⟩
      rw [mem] at hx ⊢
      split at hx
      · rw [if_pos (by assumption)]; exact h4 _ hx
      · rw [if_neg (by assumption)]; exact hx
    · rw [if_neg ha] at h
      obtain ⟨h1, t, h2, h3, h4⟩ := ins_sound r _ _ h
      refine ⟨by rw [mem, if_neg ha]; exact h1, _, h2, by rw [mem, if_neg ha]; exact h3, fun x hx => ?_⟩
      rw [mem] at hx ⊢
      split at hx
      · rw [if_pos (by assumption)]; exact hx
      · rw [if_neg (by assumption)]; exact h4 _ hx
def it : Nat → Nat → Nat
  | 0, x => x
  | n + 1, x => it n (st x)
theorem it_succ : ∀ (n x : Nat), it (n + 1) x = st (it n x)
  | 0, _ => rfl
  | n + 1, x => it_succ n (st x)
theorem loop_succ (c n x : Nat) (t : T) : loop c (n + 1) x t = if (st x) % 8 = c then ins t (ky (st x)) (fun t' => loop c n (st x) t') else loop c n (st x) t := by
  have e : loop c (n + 1) x t = fo (st x) fun y => Bool.rec (motive := fun _ => Bool) (loop c n y t) (fo (ky y) fun a => ins t a fun t' => loop c n y t') (Nat.beq (Nat.land y 7) c) := rfl
  rw [e, fo_eq, fo_eq]
  have e : Nat.land (st x) 7 = st x % 8 := Nat.and_two_pow_sub_one_eq_mod (st x) 3
  rw [e]
  by_cases h : st x % 8 = c
  · rw [if_pos h, h, Nat.beq_refl]
  · rw [if_neg h, show Nat.beq (st x % 8) c = false from by cases hb : Nat.beq (st x % 8) c; rfl; exact absurd (Nat.eq_of_beq_eq_true hb) h]
theorem loop_sound (c : Nat) : ∀ (n x : Nat) (t : T), loop c n x t = true →
    ∀ j, j < n → it (j + 1) x % 8 = c → ¬ mem t (ky (it (j + 1) x)) ∧ ∀ i, i < j → it (i + 1) x % 8 = c → ky (it (i + 1) x) ≠ ky (it (j + 1) x)
  | 0, x, t, h, j, hj, hc => absurd hj (by omega)
  | n + 1, x, t, h, j, hj, hc => by
    rw [loop_succ] at h
    cases j with
    | zero =>
      refine ⟨?_, fun i hi => absurd hi (by omega)⟩
      have hc' : st x % 8 = c := hc
      rw [if_pos hc'] at h
      exact (ins_sound _ _ _ h).1
    | succ j =>
      by_cases h0 : st x % 8 = c
      · rw [if_pos h0] at h
        obtain ⟨h1, t', h2, h3, h4⟩ := ins_sound _ _ _ h
        obtain ⟨h5, h6⟩ := loop_sound c n (st x) t' h2 j (by omega) hc
        refine ⟨fun hm => h5 (h4 _ hm), fun i hi hic he => ?_⟩
        cases i with
        | zero => exact h5 (by rw [show it (j + 1) (st x) = it (j + 1 + 1) x from rfl, ← he]; exact h3)
        | succ i => exact h6 i (by omega) hic he
      · rw [if_neg h0] at h
        obtain ⟨h5, h6⟩ := loop_sound c n (st x) t h j (by omega) hc
        refine ⟨h5, fun i hi hic he => ?_⟩
        cases i with
        | zero => exact h0 hic
        | succ i => exact h6 i (by omega) hic he

theorem st_S (r : R) : (S r).toNat = st r.toNat := by
  have hm : r.toNat &&& 1 = r.toNat % 2 := Nat.and_one_is_mod _
  have e : st r.toNat = (r.toNat >>> 1) ^^^ ((r.toNat % 2) * 0xedb88320) := by
    show (r.toNat >>> 1) ^^^ ((r.toNat &&& 1) * 0xedb88320) = _
    rw [hm]
  rw [e]
  unfold S
  rw [BitVec.toNat_xor, BitVec.toNat_ushiftRight]
  congr 1
  have hl : r.getLsbD 0 = decide (r.toNat % 2 = 1) := by rw [BitVec.getLsbD, Nat.testBit_zero]
  rw [hl]
  rcases Nat.mod_two_eq_zero_or_one r.toNat with h | h
  · rw [h]; rfl
  · rw [h]; rfl
theorem it_Sn : ∀ (n : Nat) (r : R), (Sn n r).toNat = it n r.toNat
  | 0, _ => rfl
  | n + 1, r => by rw [Sn, it_Sn n, st_S]; rfl
theorem it_X (k : Nat) : (X k).toNat = it k 0x80000000 := it_Sn k e0
set_option maxRecDepth 1000000
theorem all0 : loop 0 91631 0x80000000 .nil = true := by decide +kernel
theorem all1 : loop 1 91631 0x80000000 .nil = true := by decide +kernel
theorem all2 : loop 2 91631 0x80000000 .nil = true := by decide +kernel
theorem all3 : loop 3 91631 0x80000000 .nil = true := by decide +kernel
theorem all4 : loop 4 91631 0x80000000 .nil = true := by decide +kernel
theorem all5 : loop 5 91631 0x80000000 .nil = true := by decide +kernel
theorem all6 : loop 6 91631 0x80000000 .nil = true := by decide +kernel
theorem all7 : loop 7 91631 0x80000000 .nil = true := by decide +kernel
theorem all (c : Nat) (h : c < 8) : loop c 91631 0x80000000 .nil = true := by
  match c, h with
  | 0, _ => exact all0
  | 1, _ => exact all1
  | 2, _ => exact all2
  | 3, _ => exact all3
  | 4, _ => exact all4
  | 5, _ => exact all5
  | 6, _ => exact all6
  | 7, _ => exact all7
end Tri
theorem X_three {a b : Nat} (h0 : 0 < a) (hab : a < b) (hb : b < 91632) : X a ^^^ X b ≠ e0 := by
  intro h
  have e : X a = X b ^^^ e0 := by rw [← h, BitVec.xor_comm (X a), xcl]
  have en : (X a).toNat = (X b).toNat ^^^ 0x80000000 := by rw [e, BitVec.toNat_xor]; rfl
  obtain ⟨i, rfl⟩ : ∃ i, a = i + 1 := ⟨a - 1, by omega⟩
  obtain ⟨j, rfl⟩ : ∃ j, b = j + 1 := ⟨b - 1, by omega⟩
  rw [Tri.it_X, Tri.it_X] at en
  have hl := (Tri.loop_sound (Tri.it (j + 1) 0x80000000 % 8) 91631 0x80000000 .nil (Tri.all _ (Nat.mod_lt _ (by decide))) j (by omega) rfl).2 i (by omega)
  have h8 : Tri.it (i + 1) 0x80000000 % 8 = Tri.it (j + 1) 0x80000000 % 8 := by
    rw [en]
    have : ∀ n : Nat, (n ^^^ 0x80000000) % 8 = n % 8 := fun n => by
      rw [show (8 : Nat) = 2 ^ 3 from rfl, Nat.xor_mod_two_pow]
      simp
    exact this _
  refine hl h8 ?_
  rw [en]
  show Nat.shiftRight ((Tri.it (j + 1) 0x80000000 ^^^ 0x80000000) &&& 0x7fffffff) 3 = Nat.shiftRight (Tri.it (j + 1) 0x80000000 &&& 0x7fffffff) 3
  congr 1
  rw [Nat.and_xor_distrib_right]
  simp
end Go.Proofs.Ytelmkcbakeccoaa
