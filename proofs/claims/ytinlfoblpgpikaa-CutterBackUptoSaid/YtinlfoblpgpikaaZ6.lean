/- cutter: opening an edit of the document's; giving it; what the document's Cut answers, in memory. ; cutter: plain laws and contracts for CutterBack. -/
import Derived.Test.YtinlfoblpgpikaaZ2
import Derived.Test.YtinlfoblpgpikaaZ5
import Derived.Test.YtinlfoblpgpikaaCc
import Derived.Test.YtinlfoblpgpikaaAb
import Derived.Test.YtinlfoblpgpikaaAz
namespace Go.Proofs.Ytinlfoblpgpikaa
open Go.RowKit Go.ChangeShapes Go.WideShapes Go.Shelf Go.Proofs.YtinlfoblpgpikaaW.PrintWords Go.Proofs.YtinlfoblpgpikaaW.PrintLast Go.Proofs.YtinlfoblpgpikaaW.PrintMore Go.Proofs.Ytinlfoblpgpikaa.Pr
set_option linter.unusedVariables false
set_option linter.unusedSimpArgs false
/-- An edit of the document's that came in. -/
structure EdU (W : World) (A0 : Option Addr) (c0 : Nat) (L : List S81) (A1 : Option Addr) (c1 : Nat) (d : List Int) (A2 : Option Addr) (c2 : Nat) (x : List Int) : Prop where
  s : Kd.C k81 W A0 L.length L
  di : (Kd.int .u8).C W A1 d.length d
  ex : (Kd.int .u8).C W A2 x.length x
  h0 : L.length ≤ c0
  h1 : d.length ≤ c1
  h2 : x.length ≤ c2
  l0 : L.length ≤ 1048576
  l1 : d.length ≤ 1048576
  l2 : x.length ≤ 1048576
set_option maxRecDepth 100000 in
theorem open_edit17U {H : Type} {enc : TypeId × Value → H} {W : World} {base : Nat} {v : Value} {d : DataW H} {p : List MemPlace} (hv : Value.okWide Try.prog W .any base 26 v)
    (h : DataW.Trod enc Try.prog W 0 (fun _ => true) true 26 v d p) (_ : ∀ n ∈ d.weights Try.prog 26, n ≤ reachBytes) (hbk : Rows.uptoBulk d ≤ 1048576) :
    ∃ (A0 : Option Addr) (c0 : Nat) (L : List S81) (A1 : Option Addr) (c1 : Nat) (di : List Int) (A2 : Option Addr) (c2 : Nat) (ex : List Int), v = .agg #[.slice A0 L.length c0, .slice A1 di.length c1, .slice A2 ex.length c2] ∧
      EdU W A0 c0 L A1 c1 di A2 c2 ex := by
  obtain ⟨v0, v1, v2, y0, y1, y2, n, rfl, rfl, rfl, t0, t1, t2⟩ := Go.Joins.open_agg3 Try.underlying26 (by kernel_rfl) (by kernel_rfl) hv h
  obtain ⟨A0, c0, st, rfl, h0, h1, h2, h3⟩ := steps_of_trod t0
  obtain ⟨A1, c1, di, rfl, k1, k2⟩ := bytes_of_trod t1
  obtain ⟨A2, c2, ex, rfl, l1, l2⟩ := bytes_of_trod t2
  simp only [Rows.uptoBulk, Rows.uptoBulkAll] at hbk
  exact ⟨A0, c0, st, A1, c1, di, A2, c2, ex, rfl, ⟨h0, k1.r, l1.r, h1, k1.hc, l1.hc, by omega, by omega, by omega⟩⟩
theorem EdU.below {W W' : World} {A0 : Option Addr} {c0 : Nat} {L : List S81} {A1 : Option Addr} {c1 : Nat} {d : List Int} {A2 : Option Addr} {c2 : Nat} {x : List Int} (h : EdU W A0 c0 L A1 c1 d A2 c2 x) (hb : Below W.heap.size W W') : EdU W' A0 c0 L A1 c1 d A2 c2 x :=
  ⟨Kd.C_below h.s hb, Kd.C_below h.di hb, Kd.C_below h.ex hb, h.h0, h.h1, h.h2, h.l0, h.l1, h.l2⟩
theorem face26_f (L : List S81) (d x : List Int) (hl : L.length < 5864062014805) (hd : d.length < 140737488355328) (hx : x.length < 140737488355328) : sapperlaw17_face.f (L.length + 1) L d x = some (L.map f81, d, x) := by
  have hc : ∀ l : List Int, l.length < 140737488355328 → sapperref01_Copy.f l = some l := fun l h => by
    unfold sapperref01_Copy.f
    rw [Option.bind_some, if_pos (by simpa using h), List.nil_append]
  have hs := faceSteps_l0 L hl L.length 0 [] (by omega) rfl
  rw [List.nil_append, List.drop_zero] at hs
  unfold sapperlaw17_face.f sapperlaw17_faceSteps.f
  rw [show (0 : Int) = ((0 : Nat) : Int) from rfl, hs, Option.bind_some, hc d hd, Option.bind_some, hc x hx, Option.bind_some]
theorem face26_own {A0 : Option Addr} {c0 : Nat} {L : List S81} {A1 : Option Addr} {c1 : Nat} {d : List Int} {A2 : Option Addr} {c2 : Nat} {x : List Int} {w : World} (h : EdU w A0 c0 L A1 c1 d A2 c2 x) :
    Calls Try.prog 12 #[.agg #[.slice A0 L.length c0, .slice A1 d.length c1, .slice A2 x.length c2]] w fun e w' => ∃ B0 b0 B1 b1 B2 b2, e = .returned (.agg #[.slice B0 L.length b0, .slice B1 d.length b1, .slice B2 x.length b2]) ∧ WvO w' w.heap.size ⟨.slice B0 L.length b0, .slice B1 d.length b1, .slice B2 x.length b2, from45 ⟨0, ⟨L, d, x⟩⟩⟩ ∧ Below w.heap.size w w' := by
  have l0 := h.l0
  have l1 := h.l1
  have l2 := h.l2
  have hf := face26_f L d x (by omega) (by omega) (by omega)
  refine (sapperlaw17_face.calls (L.length + 1) A0 c0 L A1 c1 d A2 c2 x (L.map f81) d x w h.s h.h0 h.di h.h1 h.ex h.h2 hf).mono ?_
  rintro e w' ⟨v0, v1, v2, rfl, r0, r1, r2, hb⟩
  obtain ⟨B0, b0, e0⟩ := Kd.R_slice r0
  obtain ⟨B1, b1, e1⟩ := Kd.R_slice r1
  obtain ⟨B2, b2, e2⟩ := Kd.R_slice r2
  rw [List.length_map] at e0
  subst e0 e1 e2
  exact ⟨B0, b0, B1, b1, B2, b2, rfl, ⟨own_of_R82 r0, own_of_R8 r1, own_of_R8 r2, fun k hk hk2 => r1.1 k hk hk2.symm⟩, hb⟩
theorem rcut_c {A0 : Option Addr} {c0 : Nat} {L : List S81} {A1 : Option Addr} {c1 : Nat} {d : List Int} {A2 : Option Addr} {c2 : Nat} {x : List Int} {w : World} (win : Int) (h : EdU w A0 c0 L A1 c1 d A2 c2 x) {X : List S43} {code : Int} (hr : cutR (L.map f81) d x win = (X, code)) :
    Calls Try.prog 14 #[.agg #[.slice A0 L.length c0, .slice A1 d.length c1, .slice A2 x.length c2], .int .i64 win] w fun e w' => ∃ B b, e = .returned (.tuple #[.slice B X.length b, .int .i64 code]) ∧ Kd.R k45 45 w' w.heap.size (fun _ => True) (.slice B X.length b) (X.map to45) ∧ Below w.heap.size w w' := by
  have l0 := h.l0
  have l1 := h.l1
  have l2 := h.l2
  obtain ⟨k, hk⟩ := rcut_f L d x win (by omega) (by omega) (by omega)
  rw [hr] at hk
  refine (sapperref17_Cut.calls k A0 c0 L A1 c1 d A2 c2 x win (X.map to45) code w h.s h.h0 h.di h.h1 h.ex h.h2 hk).mono ?_
  rintro e w' ⟨v0, rfl, r0, hb⟩
  have r1 := Kd.S_R r0
  obtain ⟨B0, b0, e0⟩ := Kd.R_slice r1
  rw [List.length_map] at e0
  subst e0
  exact ⟨B0, b0, rfl, r1, hb⟩
theorem RowO.upd {W W' : World} {base : Nat} {v : Value} {l : List Wv} {S : Nat → Prop} (h : RowO W base v l) (hu : Upd S W W') (hs : ∀ k, base ≤ k → ¬ S k) : RowO W' base v l :=
  ⟨own_upd h.row hu (fun k hk => hs k (own_base h.row k hk)), fun a ha => (h.el a ha).upd hu (fun k hk => hs k ((h.el a ha).base k hk)), h.dis⟩
theorem C82n {e : TypeId} {W : World} {b c : Nat} {A : Option Addr} {l : List S82} {n : Nat} (h : OS e W b (.slice A n c) l) (hl : l.length = n) : Kd.C k82 W A n l ∧ n ≤ c := by
  subst hl
  exact ⟨h.C82 rfl, own_cap' h⟩
theorem C8n {W : World} {b n c : Nat} {A : Option Addr} {l : List Int} (h : OB W b (.slice A n c) l) (hl : l.length = n) : (Kd.int .u8).C W A n l ∧ n ≤ c := by
  subst hl
  exact ⟨own_C8 h, own_cap' h⟩
/-- How long a window's lists are. -/
theorem mkW_len (L : List S94) (h : L.length ≤ 65536) : (mkW L).st.length ≤ 65536 ∧ (mkW L).d.length ≤ 65536 ∧ (mkW L).x.length ≤ 65536 := by
  obtain ⟨ok, hs⟩ := fold_sz L ws0 wok0
  have e : (mkW L).sz = 0 + L.length := hs
  have h1 := ok.n
  have h2 := ok.dx
  refine ⟨?_, ?_, ?_⟩
  · show ((mkW L).dn ++ (mkW L).cu.toList).length ≤ _
    rw [List.length_append]
    unfold mkW at e ⊢
    omega
  · unfold mkW at e ⊢; omega
  · unfold mkW at e ⊢; omega
theorem cutL_el (size : Nat) (hs : 0 < size) (hs2 : size ≤ 65536) : ∀ (n : Nat) (L : List S94), L.length ≤ n → ∀ y ∈ cutL size L, y.f1.f0.length ≤ 65536 ∧ y.f1.f1.length ≤ 65536 ∧ y.f1.f2.length ≤ 65536
  | 0, L, hl, y, hy => by
    obtain rfl : L = [] := List.length_eq_zero_iff.1 (by omega)
    cases hy
  | n + 1, L, hl, y, hy => by
    by_cases hne : L = []
    · subst hne; cases hy
    · have hp : 0 < L.length := List.length_pos_iff.2 hne
      rw [cutL_cons size hs L hne] at hy
      rcases List.mem_cons.1 hy with rfl | hy
      · exact mkW_len _ (by rw [List.length_take]; omega)
      · exact cutL_el size hs hs2 n (L.drop size) (by rw [List.length_drop]; omega) y hy
theorem cutL_len (size : Nat) (hs : 0 < size) : ∀ (n : Nat) (L : List S94), L.length ≤ n → (cutL size L).length ≤ n
  | 0, L, hl => by
    obtain rfl : L = [] := List.length_eq_zero_iff.1 (by omega)
    exact Nat.le_refl _
  | n + 1, L, hl => by
    by_cases hne : L = []
    · subst hne; exact Nat.zero_le _
    · have hp : 0 < L.length := List.length_pos_iff.2 hne
      rw [cutL_cons size hs L hne]
      have := cutL_len size hs n (L.drop size) (by rw [List.length_drop]; omega)
      simp only [List.length_cons]
      omega
theorem cutR_el {st : List S82} {d x : List Int} {win : Int} {X : List S43} {code : Int} (h : cutR st d x win = (X, code)) : (∀ y ∈ X, y.f1.f0.length ≤ 65536 ∧ y.f1.f1.length ≤ 65536 ∧ y.f1.f2.length ≤ 65536) ∧ X.length ≤ 33554432 := by
  unfold cutR at h
  split at h
  · cases h; exact ⟨fun y hy => (by cases hy), Nat.zero_le _⟩
  · split at h
    · cases h; exact ⟨fun y hy => (by cases hy), Nat.zero_le _⟩
    · rename_i h0 h1
      obtain ⟨hm, hA, hC, hsz, _⟩ := checked_zero (Classical.not_not.1 h1)
      have := og_len st d x 0 hm hA hC
      cases h
      exact ⟨cutL_el _ (by omega) (by omega) _ _ (Nat.le_refl _), Nat.le_trans (cutL_len _ (by omega) _ _ (Nat.le_refl _)) (by omega)⟩
end Go.Proofs.Ytinlfoblpgpikaa
namespace Go.Proofs.Ytinlfoblpgpikaa
open Go.RowKit Go.Shelf Go.Proofs.YtinlfoblpgpikaaW.PrintWords Go.Proofs.YtinlfoblpgpikaaW.PrintLast Go.Proofs.YtinlfoblpgpikaaW.PrintMore Go.Proofs.Ytinlfoblpgpikaa.Pr
set_option linter.unusedVariables false
set_option linter.unusedSimpArgs false
def rdB (old : Int) (L : List S94) : Bool := L.all fun o => !o.f0 || (decide (0 ≤ o.f1) && decide (o.f1 < old))
theorem rdB_iff {old : Int} {L : List S94} : rdB old L = true ↔ Rds old L := by
  unfold rdB Rds
  rw [List.all_eq_true]
  constructor
  · intro h o ho hf
    have := h o ho
    simpa [hf] using this
  · intro h o ho
    cases hf : o.f0 with
    | false => rfl
    | true => simpa [hf] using h o ho hf
theorem rdB_app (old : Int) (A B : List S94) : rdB old (A ++ B) = (rdB old A && rdB old B) := List.all_append
theorem app_is {old : List Int} {st : List S82} {d x : List Int} {L : List S94} (ho : old.length ≤ 16777216) (hi : (ited st d x).2 = 0) (hr : ∀ n : Int, n ≤ 16777216 → (rds n st 0 = true ↔ Rds n L)) (hog : og st d x 0 = L) :
    appliedE old st d x = (if rdB old.length L = true then 0 else 161) ∧ applied old st d x = (if rdB old.length L = true then L.map (ob old) else []) ∧ (appliedE old st d x = 0 → Inn old.length (og st d x 0)) := by
  have h1 := hr old.length (by omega)
  have hE : appliedE old st d x = (if rdB old.length L = true then 0 else 161) := by
    unfold appliedE
    rw [if_neg (by omega), if_neg (by rw [hi]; decide)]
    by_cases h : rdB old.length L = true
    · have h2 := h1.2 (rdB_iff.1 h)
      rw [if_pos h, if_neg (by rw [h2]; decide)]
    · have h2 : rds old.length st 0 = false := by
        cases h3 : rds old.length st 0 with
        | false => rfl
        | true => exact absurd (rdB_iff.2 (h1.1 h3)) h
      rw [if_neg h, if_pos h2]
  refine ⟨hE, ?_, fun h0 => ?_⟩
  · unfold applied
    rw [hE, hog]
    by_cases h : rdB old.length L = true
    · rw [if_pos h, if_pos rfl, if_pos h]
    · rw [if_neg h, if_neg (by decide), if_neg h]
  · rw [hog]
    rw [hE] at h0
    by_cases h : rdB old.length L = true
    · exact rdB_iff.1 h
    · rw [if_neg h] at h0
      cases h0
/-- edit.Apply of an edit whose bytes these are. -/
theorem eapply_r {Ao : Option Addr} {co no : Nat} {old : List Int} {A0 : Option Addr} {n0 c0 : Nat} {st : List S82} {A1 : Option Addr} {n1 c1 : Nat} {d : List Int} {A2 : Option Addr} {n2 c2 : Nat} {x : List Int} {L : List S94} {w : World} (hO : (Kd.int .u8).C w Ao no old) (hoc : no ≤ co)
    (hs : Kd.C k82 w A0 n0 st) (h0 : n0 ≤ c0) (hd : (Kd.int .u8).C w A1 n1 d) (h1 : n1 ≤ c1) (hx : (Kd.int .u8).C w A2 n2 x) (h2 : n2 ≤ c2) (ho : no ≤ 16777216) (hi : (ited st d x).2 = 0) (hr : ∀ n : Int, n ≤ 16777216 → (rds n st 0 = true ↔ Rds n L)) (hog : og st d x 0 = L)
    {WT : List Int} {code : Int} {nw : Nat} (hWT : (if rdB no L = true then L.map (ob old) else []) = WT) (hcode : (if rdB no L = true then (0 : Int) else 161) = code) (hnw : WT.length = nw) :
    Calls Try.prog 36 #[.slice Ao no co, .agg #[.slice A0 n0 c0, .slice A1 n1 c1, .slice A2 n2 c2]] w fun e w' => ∃ B b, e = .returned (.tuple #[.slice B nw b, .int .i64 code]) ∧ OB w' w.heap.size (.slice B nw b) WT ∧ Below w.heap.size w w' := by
  obtain rfl : old.length = no := hO.1
  obtain rfl : st.length = n0 := hs.1
  obtain rfl : d.length = n1 := hd.1
  obtain rfl : x.length = n2 := hx.1
  obtain ⟨e1, e2, e3⟩ := app_is ho hi hr hog
  refine (apply_c Ao co old A0 c0 st A1 c1 d A2 c2 x w hO hoc ⟨hs, hd, hx, h0, h1, h2⟩ e3).mono ?_
  rintro e w' ⟨v, rfl, hv, hb⟩
  rw [e2, hWT] at hv
  rw [e1, hcode]
  have hv : OB w' w.heap.size v WT := hv
  obtain ⟨B, b, rfl⟩ := own_slice hv
  subst hnw
  exact ⟨B, b, rfl, hv, hb⟩
/-- What a cut that failed, or went well, tells. -/
theorem cutR_bad {st : List S82} {d x : List Int} {win : Int} {X : List S43} {code : Int} (h : cutR st d x win = (X, code)) (hc : code ≠ 0) : X = [] := by
  unfold cutR at h
  split at h
  · cases h; rfl
  · split at h
    · cases h; rfl
    · cases h; exact absurd rfl hc
theorem cutR_good {st : List S82} {d x : List Int} {win : Int} {X : List S43} (h : cutR st d x win = (X, 0)) : ∃ N : Nat, win = (N : Int) ∧ (64 ≤ N ∧ N ≤ 65536) ∧ checked st d x 16777216 ((d.length : Int) + (x.length : Int)) = 0 ∧ X = cutL N (og st d x 0) := by
  unfold cutR at h
  split at h
  · cases h
  · rename_i h1
    split at h
    · rename_i h2
      have := congrArg Prod.snd h
      exact absurd this h2
    · rename_i h2
      refine ⟨win.toNat, by omega, by omega, Decidable.not_not.1 h2, ?_⟩
      exact (congrArg Prod.fst h).symm
theorem cutR_again {js : List S82} {jd jx : List Int} {L : List S94} {N : Nat} {X : List S43} (h64 : 64 ≤ N ∧ N ≤ 65536) (hc : checked js jd jx 16777216 ((jd.length : Int) + (jx.length : Int)) = 0) (hog : og js jd jx 0 = L) (hX : X = cutL N L) : cutR js jd jx (N : Int) = (X, 0) := by
  unfold cutR
  rw [if_neg (by omega), if_neg (by rw [hc]; decide), hog, hX, Int.toNat_natCast]
/-- One window of those that were cut. -/
theorem back_round {N : Nat} (h64 : 64 ≤ N ∧ N ≤ 65536) {X : List S43} {R : List S94} {j : Nat} {y : S43} (hd : X.drop j = cutL N R) (hj : X.drop j = y :: X.drop (j + 1)) (hno : ∀ o ∈ R, NearO o) (old : List Int) (ho : old.length ≤ 16777216) :
    X.drop (j + 1) = cutL N (R.drop N) ∧ apR old y.f0 y.f1.f0 y.f1.f1 y.f1.f2 ((R.take N).length : Int) = (if rdB old.length (R.take N) = true then ((R.take N).map (ob old), 0) else ([], 171)) := by
  have hne : R ≠ [] := by
    rintro rfl
    rw [hd, cutL_nil] at hj
    cases hj
  rw [hd, cutL_cons N (by omega) R hne] at hj
  obtain ⟨h1, h2⟩ := List.cons.inj hj
  subst h1
  refine ⟨h2.symm, ?_⟩
  have hpos : 0 < R.length := List.length_pos_iff.2 hne
  have hl : (R.take N).length = min N R.length := List.length_take
  obtain ⟨k1, k2⟩ := win_apply old ho (R.take N) (List.length_pos_iff.1 (by omega)) (by omega) (fun o hh => hno o (List.mem_of_mem_take hh))
  by_cases h : rdB old.length (R.take N) = true
  · rw [if_pos h]
    exact k1 (rdB_iff.1 h)
  · rw [if_neg h]
    exact k2 (fun hh => h (rdB_iff.2 hh))
/-- The bytes that are not there yet. -/
theorem cutL_done {N : Nat} (h : 0 < N) {R : List S94} (hR : cutL N R = []) : R = [] := by
  by_cases hne : R = []
  · exact hne
  · rw [cutL_cons N h R hne] at hR
    cases hR
/-- An edit that may be read. -/
structure EN (W : World) (A0 : Option Addr) (n0 c0 : Nat) (st : List S82) (A1 : Option Addr) (n1 c1 : Nat) (d : List Int) (A2 : Option Addr) (n2 c2 : Nat) (x : List Int) : Prop where
  s : Kd.C k82 W A0 n0 st
  di : (Kd.int .u8).C W A1 n1 d
  ex : (Kd.int .u8).C W A2 n2 x
  h0 : n0 ≤ c0
  h1 : n1 ≤ c1
  h2 : n2 ≤ c2
section
variable {W W' : World} {A0 : Option Addr} {n0 c0 : Nat} {st : List S82} {A1 : Option Addr} {n1 c1 : Nat} {d : List Int} {A2 : Option Addr} {n2 c2 : Nat} {x : List Int}
theorem EN.below (h : EN W A0 n0 c0 st A1 n1 c1 d A2 n2 c2 x) (hb : Below W.heap.size W W') : EN W' A0 n0 c0 st A1 n1 c1 d A2 n2 c2 x :=
  ⟨Kd.C_below h.s hb, Kd.C_below h.di hb, Kd.C_below h.ex hb, h.h0, h.h1, h.h2⟩
theorem EN.apply (h : EN W A0 n0 c0 st A1 n1 c1 d A2 n2 c2 x) {Ao : Option Addr} {co no : Nat} {old : List Int} {L : List S94} (hO : (Kd.int .u8).C W Ao no old) (hoc : no ≤ co) (ho : no ≤ 16777216) (hi : (ited st d x).2 = 0) (hr : ∀ n : Int, n ≤ 16777216 → (rds n st 0 = true ↔ Rds n L)) (hog : og st d x 0 = L)
    {WT : List Int} {code : Int} {nw : Nat} (hWT : (if rdB no L = true then L.map (ob old) else []) = WT) (hcode : (if rdB no L = true then (0 : Int) else 161) = code) (hnw : WT.length = nw) :
    Calls Try.prog 36 #[.slice Ao no co, .agg #[.slice A0 n0 c0, .slice A1 n1 c1, .slice A2 n2 c2]] W fun e w' => ∃ B b, e = .returned (.tuple #[.slice B nw b, .int .i64 code]) ∧ ((Kd.int .u8).C w' B nw WT ∧ nw ≤ b) ∧ Below W.heap.size W w' := by
  refine (eapply_r hO hoc h.s h.h0 h.di h.h1 h.ex h.h2 ho hi hr hog hWT hcode hnw).mono ?_
  rintro e w' ⟨B, b, rfl, hv, hb⟩
  exact ⟨B, b, rfl, ⟨own_C8' (by have h2 := hv; subst hnw; exact h2) hnw, own_cap'' (by have h2 := hv; subst hnw; exact h2) hnw⟩, hb⟩
theorem EN.cut (h : EN W A0 n0 c0 st A1 n1 c1 d A2 n2 c2 x) (win : Int) (l0 : n0 ≤ 5000000) (l1 : n1 ≤ 100000000000000) (l2 : n2 ≤ 100000000000000) {X : List S43} {code : Int} {n : Nat} (hr : cutR st d x win = (X, code)) (hn : X.length = n) :
    Calls Try.prog 13 #[.agg #[.slice A0 n0 c0, .slice A1 n1 c1, .slice A2 n2 c2], .int .i64 win] W fun e w' => ∃ A c, e = .returned (.tuple #[.slice A n c, .int .i64 code]) ∧ (Kd.C k43 w' A n X ∧ n ≤ c) ∧ Below W.heap.size W w' := by
  have e0 : st.length = n0 := h.s.1
  have e1 : d.length = n1 := h.di.1
  have e2 : x.length = n2 := h.ex.1
  have hc := cut_c (w := W) (A0 := A0) (c0 := c0) (A1 := A1) (c1 := c1) (A2 := A2) (c2 := c2) (st := st) (d := d) (x := x) win ⟨by rw [e0]; exact h.s, by rw [e1]; exact h.di, by rw [e2]; exact h.ex, by rw [e0]; exact h.h0, by rw [e1]; exact h.h1, by rw [e2]; exact h.h2⟩ (by omega) (by omega) (by omega)
  rw [hr, e0, e1, e2] at hc
  refine hc.mono ?_
  rintro e w' ⟨v, l, rfl, hro, hl, hb⟩
  have hl : l.map Wv.y = X := hl
  have hln : l.length = n := by rw [← hn, ← hl, List.length_map]
  obtain ⟨A, c, rfl⟩ := hro.form hln
  exact ⟨A, c, rfl, by have := hro.C hln; rwa [hl] at this, hb⟩
theorem face_r {L : List S81} {n0 : Nat} (h : EdU W A0 c0 L A1 c1 d A2 c2 x) {SL : List S82} (hS : L.map f81 = SL) (e0 : L.length = n0) (e1 : d.length = n1) (e2 : x.length = n2) :
    Calls Try.prog 12 #[.agg #[.slice A0 n0 c0, .slice A1 n1 c1, .slice A2 n2 c2]] W fun e w' => ∃ B0 b0 B1 b1 B2 b2, e = .returned (.agg #[.slice B0 n0 b0, .slice B1 n1 b1, .slice B2 n2 b2]) ∧ EN w' B0 n0 b0 SL B1 n1 b1 d B2 n2 b2 x ∧ Below W.heap.size W w' := by
  have := face26_own h
  rw [e0, e1, e2] at this
  refine this.mono ?_
  rintro e w' ⟨B0, b0, B1, b1, B2, b2, rfl, hO, hb⟩
  have hs : OS 82 w' W.heap.size (.slice B0 n0 b0) SL := by have := hO.s; simp only [from45] at this; rwa [hS] at this
  have hd : OB w' W.heap.size (.slice B1 n1 b1) d := hO.d
  have hx : OB w' W.heap.size (.slice B2 n2 b2) x := hO.x
  obtain ⟨q0, f0⟩ := C82n hs (by rw [← hS, List.length_map, e0])
  obtain ⟨q1, f1⟩ := C8n hd e1
  obtain ⟨q2, f2⟩ := C8n hx e2
  exact ⟨B0, b0, B1, b1, B2, b2, rfl, ⟨q0, q1, q2, f0, f1, f2⟩, hb⟩
theorem join_r {A : Option Addr} {n c : Nat} {X : List S43} (win : Int) (hX : Kd.C k43 W A n X) (hc : n ≤ c) (hel : ∀ y ∈ X, y.f1.f0.length ≤ 65536 ∧ y.f1.f1.length ≤ 65536 ∧ y.f1.f2.length ≤ 65536) (hn : X.length ≤ 33554432) {js : List S82} {jd jx : List Int} {m0 m1 m2 : Nat} (hJ : joinR win X = ((js, jd, jx), 0)) (e0 : js.length = m0) (e1 : jd.length = m1) (e2 : jx.length = m2) :
    Calls Try.prog 28 #[.int .i64 win, .slice A n c] W fun e w' => ∃ B0 b0 B1 b1 B2 b2, e = .returned (.tuple #[.agg #[.slice B0 m0 b0, .slice B1 m1 b1, .slice B2 m2 b2], .int .i64 0]) ∧ EN w' B0 m0 b0 js B1 m1 b1 jd B2 m2 b2 jx ∧ Below W.heap.size W w' := by
  have ht := tot_le X.length 65536 X (Nat.le_refl _) hel
  have h1 : X.length * (65536 + 1) ≤ 33554432 * (65536 + 1) := Nat.mul_le_mul_right _ hn
  have h2 : X.length * 65536 ≤ 33554432 * 65536 := Nat.mul_le_mul_right _ hn
  have := join_c win hX hc (by omega) (by omega) (by omega)
  rw [hJ] at this
  refine this.mono ?_
  rintro e w' ⟨s, d, x, rfl, hs, hd, hx, _, hb⟩
  simp only at hs hd hx
  obtain ⟨As, aas, rfl⟩ := hs.form rfl
  obtain ⟨Ad, aad, rfl⟩ := own_slice hd
  obtain ⟨Ax, aax, rfl⟩ := own_slice hx
  obtain ⟨q0, f0⟩ := C82n hs rfl
  obtain ⟨q1, f1⟩ := C8n hd rfl
  obtain ⟨q2, f2⟩ := C8n hx rfl
  subst e0 e1 e2
  exact ⟨As, aas, Ad, aad, Ax, aax, rfl, ⟨q0, q1, q2, f0, f1, f2⟩, hb⟩
end
end Go.Proofs.Ytinlfoblpgpikaa
