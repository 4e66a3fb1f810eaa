/- cutter: the walk of CutterControls. -/
import Derived.Test.YtinlfoblpgpikaaSm
import Derived.Test.YtinlfoblpgpikaaCr
import Derived.Test.YtinlfoblpgpikaaUn
import Derived.Test.YtinlfoblpgpikaaUr
import Derived.Test.YtinlfoblpgpikaaN5
import Derived.Test.YtinlfoblpgpikaaN6
import Derived.Test.YtinlfoblpgpikaaLv
import Derived.Test.YtinlfoblpgpikaaOc
namespace Go.Proofs.Ytinlfoblpgpikaa
open Go.RowKit Go.ChangeShapes Go.WideShapes Go.Shelf Go.Proofs.YtinlfoblpgpikaaW.PrintWords Go.Proofs.YtinlfoblpgpikaaW.PrintLast Go.Proofs.YtinlfoblpgpikaaW.PrintMore Go.Proofs.Ytinlfoblpgpikaa.Pr
set_option linter.unusedVariables false
set_option linter.unusedSimpArgs false
theorem bytes_range : ∀ (k : Nat) (x : Int), 0 ≤ x → ∀ b ∈ encN k x, 0 ≤ b ∧ (x < 2 * 128 ^ k → b ≤ 255)
  | 0, x, h0, b, hb => by
    simp [encN] at hb
    omega
  | k + 1, x, h0, b, hb => by
    unfold encN at hb
    split at hb
    · rcases List.mem_cons.1 hb with rfl | hb
      · omega
      · have := bytes_range k (x / 128) (by omega) b hb
        refine ⟨this.1, fun h => this.2 ?_⟩
        rw [Int.pow_succ] at h
        omega
    · simp at hb
      omega
theorem bytesN_range {x : Int} (h0 : 0 ≤ x) (h1 : x ≤ 18446744073709551615) : ∀ b ∈ bytesN x, 0 ≤ b ∧ b ≤ 255 := by
  intro b hb
  refine ⟨(bytes_range 9 x h0 b hb).1, (bytes_range 9 x h0 b hb).2 ?_⟩
  have : (128 : Int) ^ 9 = 9223372036854775808 := by decide
  omega
theorem bytesL_range {l : List Int} (h : ∀ x ∈ l, 0 ≤ x ∧ x ≤ 18446744073709551615) : ∀ b ∈ bytesL l, 0 ≤ b ∧ b ≤ 255 := by
  intro b hb
  obtain ⟨x, hx, hb⟩ := List.mem_flatMap.1 hb
  exact bytesN_range (h x hx).1 (h x hx).2 b hb

theorem ctlL_range {l : List S82} (h : l.all mayC = true) : ∀ b ∈ ctlL l, 0 ≤ b ∧ b ≤ 255 := by
  intro b hb
  obtain ⟨s, hs, hb⟩ := List.mem_flatMap.1 hb
  have hm := (mayC_iff s).1 (List.all_eq_true.1 h s hs)
  have hz := zig_le hm.2.2.2.2.1 hm.2.2.2.2.2
  refine bytesL_range (fun x hx => ?_) b hb
  simp only [List.mem_cons, List.not_mem_nil, or_false] at hx
  rcases hx with rfl | rfl | rfl <;> omega
theorem ctlR_range (l : List S82) : ∀ b ∈ (ctlR l).1, 0 ≤ b ∧ b ≤ 255 := by
  unfold ctlR
  split
  · exact ctlL_range (by assumption)
  · intro b hb; cases hb
theorem ctlR_len (l : List S82) : (ctlR l).1.length ≤ 10 * l.length := by
  unfold ctlR
  split
  · exact ctlL_len (by assumption)
  · simp
/-- Steps that came in. -/
structure StU (W : World) (A : Option Addr) (c : Nat) (L : List S81) : Prop where
  C : Kd.C k81 W A L.length L
  hc : L.length ≤ c
  hb : L.length ≤ 1048576
structure ByU (W : World) (A : Option Addr) (c : Nat) (b : List Int) : Prop where
  B : Bs W A b.length c b
  hb : b.length ≤ 1048576
set_option maxRecDepth 100000 in
theorem open_stepsU {H : Type} {enc : TypeId × Value → H} {W : World} {base : Nat} {v : Value} {d : DataW H} {p : List MemPlace} (hv : Value.okWide Try.prog W .any base 23 v)
    (h : DataW.Trod enc Try.prog W 0 (fun _ => true) true 23 v d p) (_ : ∀ n ∈ d.weights Try.prog 23, n ≤ reachBytes) (hbk : Rows.uptoBulk d ≤ 1048576) :
    ∃ (A0 : Option Addr) (c0 : Nat) (L : List S81), v = .slice A0 L.length c0 ∧ StU W A0 c0 L := by
  obtain ⟨a, len, cap, rfl⟩ := okWide_slice Try.underlying23 hv
  obtain ⟨fuel, hf⟩ := h
  obtain ⟨A, c, l, e, h0, h1, _, h3⟩ := steps_of_trod (v := .slice a len cap) hf
  exact ⟨A, c, l, e, h0, h1, Nat.le_trans h3 hbk⟩
set_option maxRecDepth 100000 in
theorem open_bytesU {H : Type} {enc : TypeId × Value → H} {W : World} {base : Nat} {v : Value} {d : DataW H} {p : List MemPlace} (hv : Value.okWide Try.prog W .any base 24 v)
    (h : DataW.Trod enc Try.prog W 0 (fun _ => true) true 24 v d p) (_ : ∀ n ∈ d.weights Try.prog 24, n ≤ reachBytes) (hbk : Rows.uptoBulk d ≤ 1048576) :
    ∃ (A1 : Option Addr) (c1 : Nat) (b : List Int), v = .slice A1 b.length c1 ∧ ByU W A1 c1 b := by
  obtain ⟨a, len, cap, rfl⟩ := okWide_slice Try.underlying24 hv
  obtain ⟨fuel, hf⟩ := h
  obtain ⟨A, c, l, e, hB, hl⟩ := bytes_of_trod (v := .slice a len cap) hf
  exact ⟨A, c, l, e, ⟨⟨hB.r, hB.hc, hB.hr⟩, Nat.le_trans hl hbk⟩⟩
theorem faceSteps_c {A : Option Addr} {c n : Nat} {L : List S81} {SL : List S82} {w : World} (hC : Kd.C k81 w A n L) (hc : n ≤ c) (hl : n < 5864062014805) (hS : L.map f81 = SL) :
    Calls Try.prog 30 #[.slice A n c] w fun e w' => ∃ B b, e = .returned (.slice B n b) ∧ Kd.C k82 w' B n SL ∧ n ≤ b ∧ Below w.heap.size w w' := by
  obtain rfl : L.length = n := hC.1
  have hf := faceSteps_l0 L hl L.length 0 [] (by omega) rfl
  simp only [List.nil_append, List.drop_zero] at hf
  have hSl : SL.length = L.length := by rw [← hS, List.length_map]
  refine (sapperlaw17_faceSteps.calls (L.length + 1) A c L SL w hC hc (by rw [← hS]; exact hf)).mono ?_
  rintro e w' ⟨v0, rfl, r0, hb⟩
  obtain ⟨B, b, rfl⟩ := Kd.R_slice r0
  have h1 := (Kd.R_reads' r0).2.2
  have h2 := (Kd.R_reads' r0).2.1
  rw [hSl] at h1 h2 ⊢
  exact ⟨B, b, rfl, h1, h2, hb⟩
end Go.Proofs.Ytinlfoblpgpikaa
