/- cutter: spoil, by contract over rows. -/
import Derived.Test.YtinlfoblpgpikaaF6
import Derived.Test.YtinlfoblpgpikaaPc
import Derived.Test.YtinlfoblpgpikaaN6
import Derived.Test.YtinlfoblpgpikaaWm
namespace Go.Proofs.Ytinlfoblpgpikaa
open Go.RowKit Go.Shelf Go.Proofs.YtinlfoblpgpikaaW.PrintWords Go.Proofs.YtinlfoblpgpikaaW.PrintLast Go.Proofs.YtinlfoblpgpikaaW.PrintMore Go.Proofs.Ytinlfoblpgpikaa.Pr
set_option linter.unusedVariables false
set_option linter.unusedSimpArgs false
theorem cells82_reps (W : World) (base : Nat) (ok : Nat → Prop) : ∀ l : List S82, Reps (k82.M W base ok) 3 l (cells82 l)
  | [] => Reps.none _ _
  | s :: l => by
    obtain ⟨h1, h2⟩ := cells82_reps W base ok l
    have e : cells82 (s :: l) = [.int .i64 s.f0, .int .i64 s.f1, .int .i64 s.f2] ++ cells82 l := rfl
    refine ⟨by rw [cells82_len], fun j p hj => ?_⟩
    cases j with
    | zero =>
      simp at hj
      subst hj
      rw [e]
      exact k82_mkM W base ok s
    | succ j =>
      have := h2 j p (by simpa using hj)
      rw [e, show (j + 1) * 3 = 3 + j * 3 by omega, ← List.drop_drop]
      exact this
theorem R82_of_own {W : World} {base : Nat} {ok : Nat → Prop} {v : Value} {l : List S82} (h : OS 82 W base v l) (hok : ∀ k, v.ownBlock = some k → ok k) : Kd.R k82 82 W base ok v l :=
  ⟨hok, cells82 l, h, cells82_reps W base _ l⟩
theorem R8_of_own {W : World} {base : Nat} {ok : Nat → Prop} {v : Value} {l : List Int} (h : OB W base v l) (hok : ∀ k, v.ownBlock = some k → ok k) : Kd.R (Kd.int .u8) 5 W base ok v l :=
  Kd.R_of_own h hok
theorem own_of_R8 {W : World} {base : Nat} {ok : Nat → Prop} {v : Value} {l : List Int} (h : Kd.R (Kd.int .u8) 5 W base ok v l) : OB W base v l := Kd.own_of_R h
theorem own_of_R82 {W : World} {base : Nat} {ok : Nat → Prop} {v : Value} {l : List S82} (h : Kd.R k82 82 W base ok v l) : OS 82 W base v l := by
  obtain ⟨_, inner, ho, hr⟩ := h
  have : inner = cells82 l := by
    apply List.ext_getElem?
    intro q
    rcases Nat.lt_or_ge q (l.length * 3) with hq | hq
    · have hj : q / 3 < l.length := by omega
      have h1 := k82_openM (hr.2 (q / 3) _ (List.getElem?_eq_getElem hj))
      have hi : q % 3 < 3 := Nat.mod_lt _ (by omega)
      obtain ⟨u, hu⟩ : ∃ u, [Value.int .i64 l[q / 3].f0, .int .i64 l[q / 3].f1, .int .i64 l[q / 3].f2][q % 3]? = some u := by
        rcases (show q % 3 = 0 ∨ q % 3 = 1 ∨ q % 3 = 2 by omega) with e | e | e <;> rw [e] <;> exact ⟨_, rfl⟩
      have h2 := cells82_at l (q / 3) _ (List.getElem?_eq_getElem hj) (q % 3) _ hu
      rw [← h1] at hu
      have hq3 : q / 3 * 3 + q % 3 = q := by omega
      rw [show k82.sz = 3 from rfl, List.getElem?_take_of_lt hi, List.getElem?_drop, hq3] at hu
      rw [hq3] at h2
      rw [h2, hu]
    · rw [List.getElem?_eq_none (by have := hr.1; rw [this]; exact hq), List.getElem?_eq_none (by rw [cells82_len]; exact hq)]
  subst this
  exact ho
theorem sp_l2 (s : List S82) (d x : List Int) (hs : s.length ≤ 5000000000000) (hd : d.length ≤ 140000000000000) (hx : x.length ≤ 140000000000000) : ∀ (j i : Nat) (x' : List Int), x'.length = x.length → i + j = x.length → sapperlaw17_spoil.l2 (j + 1) (x.length : Int) i s d x' = some ((s.length : Int) + d.length + x.length + 21)
  | 0, i, x', hl, hi => by
    rw [sapperlaw17_spoil.l2, if_neg (by omega)]
    simp only [Option.bind_some]
    rw [if_pos (by simp; omega)]
    rw [if_pos (by simp; omega)]
    rw [if_pos (by simp; omega)]
    simp only [List.length_append, List.length_cons, List.length_nil, hl]
    congr 1
    unfold wrap64
    omega
  | j + 1, i, x', hl, hi => by
    have e : wrap64 ((i : Int) + 1) = ((i + 1 : Nat) : Int) := by rw [w64 _ (by omega)]; omega
    rw [sapperlaw17_spoil.l2, if_pos (by omega), if_pos (by omega), if_pos (by omega), e]
    exact sp_l2 s d x hs hd hx j (i + 1) _ (by rw [List.length_set]; exact hl) (by omega)
theorem sp_l1 (s : List S82) (d x : List Int) (hs : s.length ≤ 5000000000000) (hd : d.length ≤ 140000000000000) (hx : x.length ≤ 140000000000000) : ∀ (j i : Nat) (d' : List Int), d'.length = d.length → i + j = d.length → sapperlaw17_spoil.l1 (x.length + 1 + 1 + j) (d.length : Int) i s d' x = some ((s.length : Int) + d.length + x.length + 21)
  | 0, i, d', hl, hi => by
    rw [Nat.add_zero, sapperlaw17_spoil.l1, if_neg (by omega)]
    have := sp_l2 s d' x hs (by omega) hx x.length 0 x rfl (by omega)
    rw [hl] at this
    exact this
  | j + 1, i, d', hl, hi => by
    have e : wrap64 ((i : Int) + 1) = ((i + 1 : Nat) : Int) := by rw [w64 _ (by omega)]; omega
    rw [show x.length + 1 + 1 + (j + 1) = (x.length + 1 + 1 + j) + 1 by omega, sapperlaw17_spoil.l1, if_pos (by omega), if_pos (by omega), if_pos (by omega), e]
    exact sp_l1 s d x hs hd hx j (i + 1) _ (by rw [List.length_set]; exact hl) (by omega)
theorem sp_l0 (s : List S82) (d x : List Int) (hs : s.length ≤ 5000000000000) (hd : d.length ≤ 140000000000000) (hx : x.length ≤ 140000000000000) : ∀ (j i : Nat) (s' : List S82), s'.length = s.length → i + j = s.length → sapperlaw17_spoil.l0 (x.length + 1 + 1 + d.length + 1 + j) (s.length : Int) i s' d x = some ((s.length : Int) + d.length + x.length + 21)
  | 0, i, s', hl, hi => by
    rw [Nat.add_zero, sapperlaw17_spoil.l0, if_neg (by omega)]
    have := sp_l1 s' d x (by omega) hd hx d.length 0 d rfl (by omega)
    rw [hl] at this
    exact this
  | j + 1, i, s', hl, hi => by
    have e : wrap64 ((i : Int) + 1) = ((i + 1 : Nat) : Int) := by rw [w64 _ (by omega)]; omega
    rw [show x.length + 1 + 1 + d.length + 1 + (j + 1) = (x.length + 1 + 1 + d.length + 1 + j) + 1 by omega, sapperlaw17_spoil.l0, if_pos (by omega), if_pos (by omega), if_pos (by omega), e]
    exact sp_l0 s d x hs hd hx j (i + 1) _ (by rw [List.length_set]; exact hl) (by omega)
theorem spoil_c {W : World} {base : Nat} {s d x : Value} {sl : List S82} {dl xl : List Int} (h0 : OS 82 W base s sl) (h1 : OB W base d dl) (h2 : OB W base x xl) (hdx : Dj d x) (hs : sl.length ≤ 5000000000000) (hd : dl.length ≤ 140000000000000) (hx : xl.length ≤ 140000000000000) :
    Calls Try.prog 18 #[.agg #[s, d, x]] W fun e W' => e = .returned (.int .i64 ((sl.length : Int) + dl.length + xl.length + 21)) ∧ Upd (fun k => s.ownBlock = some k ∨ d.ownBlock = some k ∨ x.ownBlock = some k) W W' := by
  obtain ⟨w0, hw0⟩ : ∃ w0 : World, w0 = { W with heap := #[] } := ⟨_, rfl⟩
  have hz : w0.heap.size = 0 := by rw [hw0]; rfl
  have hB : Below w0.heap.size w0 W := by
    rw [hz, hw0]
    exact ⟨rfl, rfl, rfl, Nat.zero_le _, fun k hk => absurd hk (Nat.not_lt_zero _)⟩
  have hr := sp_l0 sl dl xl hs hd hx sl.length 0 sl rfl (by omega)
  refine (sapperlaw17_spoil.calls _ (fun k => s.ownBlock = some k) s sl (fun k => d.ownBlock = some k) d dl (fun k => x.ownBlock = some k) x xl _ w0 W hB
    (R82_of_own (own_weaken h0 (by omega)) (fun k hk => hk)) (R8_of_own (own_weaken h1 (by omega)) (fun k hk => hk)) (fun k hk hk2 => hdx k hk hk2) (R8_of_own (own_weaken h2 (by omega)) (fun k hk => hk)) (fun k hk hk2 => hdx k hk2 hk) hr).mono ?_
  rintro e W' ⟨rfl, hb, hk⟩
  exact ⟨rfl, hb.os.trans (by rw [hw0]), hb.tape.trans (by rw [hw0]), hb.output.trans (by rw [hw0]), hk.1, fun j hj hn => hk.2 j hj hn⟩
end Go.Proofs.Ytinlfoblpgpikaa
