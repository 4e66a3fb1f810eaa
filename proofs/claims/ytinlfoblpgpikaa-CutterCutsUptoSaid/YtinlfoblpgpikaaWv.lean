/- cutter: take, plainly and by contract. -/
import Derived.Test.YtinlfoblpgpikaaWt
import Derived.Test.YtinlfoblpgpikaaWu
import Derived.Test.YtinlfoblpgpikaaWy
namespace Go.Proofs.Ytinlfoblpgpikaa
open Go.RowKit Go.Shelf Go.Proofs.YtinlfoblpgpikaaW.PrintWords Go.Proofs.YtinlfoblpgpikaaW.PrintLast Go.Proofs.YtinlfoblpgpikaaW.PrintMore Go.Proofs.Ytinlfoblpgpikaa.Pr
set_option linter.unusedVariables false
set_option linter.unusedSimpArgs false
/-- The window that is being made: its steps but the last one, the last one. -/
structure WS where
  pos : Int
  dn : List S82
  cu : Option S82
  d : List Int
  x : List Int
  sz : Nat
  at_ : Int
  any : Bool
def WS.st (t : WS) : List S82 := t.dn ++ t.cu.toList
def WS.wx (t : WS) : Wx := ⟨t.pos, t.sz, t.at_, t.any⟩
def ws0 : WS := ⟨0, [], none, [], [], 0, 0, false⟩
/-- One more byte. -/
def tkw (t : WS) (o : S94) : WS :=
  if o.f0 = true then
    if t.any = false then ⟨o.f1, t.st, some ⟨1, 0, 0⟩, t.d ++ [o.f2], t.x, t.sz + 1, o.f1 + 1, true⟩
    else match t.cu with
      | none => t
      | some s => if s.f1 = 0 ∧ o.f1 = t.at_ then ⟨t.pos, t.dn, some ⟨s.f0 + 1, 0, 0⟩, t.d ++ [o.f2], t.x, t.sz + 1, o.f1 + 1, true⟩
        else ⟨t.pos, t.dn ++ [⟨s.f0, s.f1, o.f1 - t.at_⟩], some ⟨1, 0, 0⟩, t.d ++ [o.f2], t.x, t.sz + 1, o.f1 + 1, true⟩
  else match t.cu with
    | none => ⟨t.pos, t.dn, some ⟨0, 1, 0⟩, t.d, t.x ++ [o.f2], t.sz + 1, t.at_, t.any⟩
    | some s => ⟨t.pos, t.dn, some ⟨s.f0, s.f1 + 1, 0⟩, t.d, t.x ++ [o.f2], t.sz + 1, t.at_, t.any⟩
/-- What holds of it. -/
structure WOk (t : WS) : Prop where
  a : t.any = true → t.cu ≠ none
  c : t.cu = none → t.dn = [] ∧ t.d = [] ∧ t.x = []
  s : ∀ s, t.cu = some s → s.f2 = 0 ∧ 0 ≤ s.f0 ∧ s.f0 ≤ t.sz ∧ 0 ≤ s.f1 ∧ s.f1 ≤ t.sz
  n : t.dn.length + t.cu.toList.length ≤ t.sz
  dx : t.d.length + t.x.length = t.sz
theorem wok0 : WOk ws0 := ⟨(fun h => by cases h), (fun _ => ⟨rfl, rfl, rfl⟩), (fun s h => by cases h), (by simp [ws0]), (by simp [ws0])⟩
theorem tkw_ok {t : WS} {o : S94} (h : WOk t) : WOk (tkw t o) := by
  obtain ⟨pos, dn, cu, d, x, sz, at_, any⟩ := t
  obtain ⟨h1, h2, h3, h4, h5⟩ := h
  simp only at h1 h2 h3 h4 h5
  unfold tkw
  simp only [WS.st]
  by_cases hf : o.f0 = true
  · rw [if_pos hf]
    cases any with
    | false =>
      rw [if_pos rfl]
      exact ⟨(fun _ => by simp), (fun h => by simp at h), (fun s hs => by simp at hs; subst hs; simp; omega), (by simp at h4 ⊢; omega), (by simp; omega)⟩
    | true =>
      rw [if_neg (by simp)]
      cases cu with
      | none => exact absurd rfl (h1 rfl)
      | some s =>
        have hs := h3 s rfl
        simp only
        split
        · exact ⟨(fun _ => by simp), (fun h => by simp at h), (fun s' hs' => by simp at hs'; subst hs'; simp; omega), (by simp at h4 ⊢; omega), (by simp; omega)⟩
        · exact ⟨(fun _ => by simp), (fun h => by simp at h), (fun s' hs' => by simp at hs'; subst hs'; simp; omega), (by simp at h4 ⊢; omega), (by simp; omega)⟩
  · rw [if_neg hf]
    cases cu with
    | none => exact ⟨(fun _ => by simp), (fun h => by simp at h), (fun s hs => by simp at hs; subst hs; simp; omega), (by simp at h4 ⊢; omega), (by simp; omega)⟩
    | some s =>
      have hs := h3 s rfl
      exact ⟨(fun _ => by simp), (fun h => by simp at h), (fun s' hs' => by simp at hs'; subst hs'; simp; omega), (by simp at h4 ⊢; omega), (by simp; omega)⟩
/-- take, by contract. -/
theorem take_c {base : Nat} {W0 : World} {S0 : Nat → Prop} {Z : List (Nat × Obj)} {W : World} {Bm : Nat} {s d x : Value} {t : WS} {o : S94} (h : Mq base W0 S0 Z W W Bm s d x t.st t.d t.x t.wx) (ok : WOk t) (hz : t.sz ≤ 65536) (ho : -1152921504606846976 ≤ o.f1 ∧ o.f1 ≤ 1152921504606846976) (ha : -1152921504606846976 ≤ t.at_ ∧ t.at_ ≤ 1152921504606846976) :
    Calls Try.prog 42 #[.pointer (some ⟨Bm, 0, none⟩), enc91 o] W (fun e w' => e = .returned (.tuple #[]) ∧ ∃ s d x, Mq base W0 S0 Z W w' Bm s d x (tkw t o).st (tkw t o).d (tkw t o).x (tkw t o).wx) := by
  obtain ⟨pos, dn, cu, dl, xl, sz, at_, any⟩ := t
  obtain ⟨of0, p, b⟩ := o
  obtain ⟨h1, h2, h3, h4, h5⟩ := ok
  simp only at h1 h2 h3 h4 h5 hz ho ha
  simp only [WS.st, WS.wx] at h ⊢
  unfold enc91
  simp only
  cases of0 with
  | true =>
    cases any with
    | false =>
      have hl : (dn ++ cu.toList).length ≤ 65536 := by rw [List.length_append]; omega
      refine (take_p3 base W0 S0 Z W Bm s d x dl xl pos sz at_ p b (dn ++ cu.toList) 0 h (by omega) (by omega) (by omega) ho (by omega) rfl).mono ?_
      rintro e w' ⟨he, s', d', x', hq⟩
      refine ⟨he, s', d', x', ?_⟩
      simp only [tkw, WS.st, if_true]
      exact hq
    | true =>
      cases cu with
      | none => exact absurd rfl (h1 rfl)
      | some c =>
        obtain ⟨c0, c1, c2⟩ := c
        obtain ⟨hc2, hc0, hc0', hc1, hc1'⟩ := h3 _ rfl
        simp only at hc2 hc0 hc0' hc1 hc1'
        subst hc2
        simp only [Option.toList_some, List.length_cons, List.length_nil] at h h4
        by_cases hg : c1 = 0 ∧ p = at_
        · obtain ⟨rfl, rfl⟩ := hg
          refine (take_p4 base W0 S0 Z W Bm s d x dl xl pos sz p p b dn c0 h (by omega) (by omega) (by omega) ho (by omega) (by omega) rfl).mono ?_
          rintro e w' ⟨he, s', d', x', hq⟩
          refine ⟨he, s', d', x', ?_⟩
          simp only [tkw, if_true]
          exact hq
        · by_cases hcc : 0 < c1
          · refine (take_p5a base W0 S0 Z W Bm s d x dl xl pos sz at_ p b dn c0 c1 0 0 h (by omega) (by omega) (by omega) ho (by omega) ha rfl hcc).mono ?_
            rintro e w' ⟨he, s', d', x', hq⟩
            refine ⟨he, s', d', x', ?_⟩
            simp only [tkw, if_true, if_neg hg]
            exact hq
          · have hc10 : c1 = 0 := by omega
            refine (take_p5b base W0 S0 Z W Bm s d x dl xl pos sz at_ p b dn c0 c1 0 0 h (by omega) (by omega) (by omega) ho (by omega) ha rfl hc10 (fun hp => hg ⟨hc10, hp⟩)).mono ?_
            rintro e w' ⟨he, s', d', x', hq⟩
            refine ⟨he, s', d', x', ?_⟩
            simp only [tkw, if_true, if_neg hg]
            exact hq
  | false =>
    cases cu with
    | none =>
      obtain ⟨rfl, _, _⟩ := h2 rfl
      refine (take_p1 base W0 S0 Z W Bm s d x dl xl pos sz at_ p b [] 0 0 any h (by omega) (by omega) (by omega) ho rfl ⟨rfl, rfl⟩).mono ?_
      rintro e w' ⟨he, s', d', x', hq⟩
      refine ⟨he, s', d', x', ?_⟩
      simp only [tkw]
      exact hq
    | some c =>
      obtain ⟨c0, c1, c2⟩ := c
      obtain ⟨hc2, hc0, hc0', hc1, hc1'⟩ := h3 _ rfl
      simp only at hc2 hc0 hc0' hc1 hc1'
      subst hc2
      simp only [Option.toList_some, List.length_cons, List.length_nil] at h h4
      refine (take_p2 base W0 S0 Z W Bm s d x dl xl pos sz at_ p b dn c0 c1 any h (by omega) (by omega) (by omega) ho (by omega) (by omega)).mono ?_
      rintro e w' ⟨he, s', d', x', hq⟩
      refine ⟨he, s', d', x', ?_⟩
      simp only [tkw]
      exact hq
end Go.Proofs.Ytinlfoblpgpikaa
