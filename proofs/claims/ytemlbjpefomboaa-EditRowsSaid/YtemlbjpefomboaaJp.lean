/- edit: edits one behind the other: what Join answers; the document's tells it. -/
import Derived.Test.YtemlbjpefomboaaEe
import Derived.Test.YtemlbjpefomboaaNf
import Derived.Test.YtemlbjpefomboaaNo
namespace Go.Proofs.Ytemlbjpefomboaa
open Go.RowKit Go.Shelf Go.Proofs.YtemlbjpefomboaaW.PrintWords Go.Proofs.YtemlbjpefomboaaW.PrintLast Go.Proofs.YtemlbjpefomboaaW.PrintMore Go.Proofs.Ytemlbjpefomboaa.Pr
set_option linter.unusedVariables false
set_option linter.unusedSimpArgs false
/-- The first edit that may not be: its error. -/
def badJ : List S28 → Int
  | [] => 0
  | e :: l => if (ited e.f0 e.f1 e.f2).2 ≠ 0 then (ited e.f0 e.f1 e.f2).2 else badJ l
/-- How much all make. -/
def szJ : List S28 → Nat
  | [] => 0
  | e :: l => e.f1.length + e.f2.length + szJ l
def ogJ (L : List S28) : List S94 := L.flatMap (fun e => og e.f0 e.f1 e.f2 0)
/-- What Join answers. -/
def joinE (L : List S28) : List S80 × List Int × List Int × Int :=
  if badJ L ≠ 0 then ([], [], [], badJ L) else if 16777216 < szJ L then ([], [], [], 162) else normOf (ogJ L)
theorem badJ_ok : ∀ {L : List S28}, badJ L = 0 → ∀ e ∈ L, (ited e.f0 e.f1 e.f2).2 = 0
  | e :: l, h, x, hx => by
    rw [badJ] at h
    by_cases h0 : (ited e.f0 e.f1 e.f2).2 = 0
    · rw [if_neg (fun h' => h' h0)] at h
      rcases List.mem_cons.1 hx with rfl | hx
      · exact h0
      · exact badJ_ok h x hx
    · rw [if_pos h0] at h
      exact absurd h h0
theorem badJ_all : ∀ (L : List S28), (∀ e ∈ L, (ited e.f0 e.f1 e.f2).2 = 0) → badJ L = 0
  | [], _ => rfl
  | e :: l, h => by
    rw [badJ, if_neg (fun h' => h' (h e List.mem_cons_self))]
    exact badJ_all l (fun x hx => h x (List.mem_cons_of_mem _ hx))
theorem szJ_app : ∀ (l m : List S28), szJ (l ++ m) = szJ l + szJ m
  | [], m => by simp [szJ]
  | e :: l, m => by rw [List.cons_append, szJ, szJ, szJ_app l m]; omega
theorem take_snoc28 {L : List S28} {i : Nat} (h : i < L.length) : L.take (i + 1) = L.take i ++ [rd_T28 L i] := by
  rw [List.take_succ_eq_append_getElem h]
  simp [rd_T28, List.getD_eq_getElem?_getD, List.getElem?_eq_getElem h]
theorem mem28 {L : List S28} {i : Nat} (h : i < L.length) : rd_T28 L i ∈ L := by
  have : rd_T28 L (i : Int) = L[i] := by simp [rd_T28, List.getD_eq_getElem?_getD, List.getElem?_eq_getElem h]
  rw [this]
  exact List.getElem_mem h
theorem szJ_take (L : List S28) (i : Nat) : szJ (L.take i) ≤ szJ L := by
  conv => rhs; rw [← List.take_append_drop i L, szJ_app]
  omega
theorem og_size {st : List S80} {d x : List Int} (h : (ited st d x).2 = 0) : (og st d x 0).length = d.length + x.length := by
  have ha := ited_all h
  have := og_len st d x 0 ha.1 ha.2.2.1 ha.2.2.2.1
  omega
theorem ogJ_len : ∀ (L : List S28), (∀ e ∈ L, (ited e.f0 e.f1 e.f2).2 = 0) → (ogJ L).length = szJ L
  | [], _ => rfl
  | e :: l, h => by
    have h1 := og_size (h e List.mem_cons_self)
    have h2 := ogJ_len l (fun x hx => h x (List.mem_cons_of_mem _ hx))
    unfold ogJ at h2 ⊢
    rw [List.flatMap_cons, List.length_append, h1, h2, szJ]
theorem ogJ_snoc (l : List S28) (e : S28) : ogJ (l ++ [e]) = ogJ l ++ og e.f0 e.f1 e.f2 0 := by simp [ogJ]
theorem rjoin_l1 (L : List S28) (hl : L.length ≤ 1048576) (hf : ∀ e ∈ L, e.f0.length ≤ 1048576) (hok : ∀ e ∈ L, (ited e.f0 e.f1 e.f2).2 = 0) : ∀ (j i : Nat), i + j = L.length → szJ (L.take i) ≤ 16777216 →
    ∃ k, sapperref16_Join.l1 k L (szJ (L.take i) : Nat) (ogJ (L.take i)) i = some (if 16777216 < szJ L then ([], [], [], 162) else normOf (ogJ L))
  | 0, i, hi, hs => by
    obtain rfl : i = L.length := by omega
    rw [List.take_length] at hs ⊢
    obtain ⟨k, hk⟩ := of_f (ogJ L) (by rw [ogJ_len L hok]; exact hs)
    refine ⟨k + 1, ?_⟩
    rw [sapperref16_Join.l1, if_neg (by omega), hk, Option.bind_some, if_neg (by omega)]
  | j + 1, i, hi, hs => by
    have hil : i < L.length := by omega
    have hm := mem28 hil
    have hsz : szJ (L.take (i + 1)) = szJ (L.take i) + ((rd_T28 L i).f1.length + (rd_T28 L i).f2.length) := by
      rw [take_snoc28 hil, szJ_app]
      simp [szJ]
    have hle := szJ_take L (i + 1)
    have hsi := ited_size (hok _ hm)
    obtain ⟨k2', h2'⟩ : ∃ r, (if 16777216 < szJ L then (([], [], [], 162) : List S80 × List Int × List Int × Int) else normOf (ogJ L)) = r := ⟨_, rfl⟩
    have hlen : (ogJ (L.take i)).length = szJ (L.take i) := ogJ_len _ (fun e he => hok e (List.mem_of_mem_take he))
    have hlo := og_size (hok _ hm)
    have ho : ogJ (L.take (i + 1)) = ogJ (L.take i) ++ og (rd_T28 L i).f0 (rd_T28 L i).f1 (rd_T28 L i).f2 0 := by rw [take_snoc28 hil, ogJ_snoc]
    have IH := fun h => rjoin_l1 L hl hf hok j (i + 1) (by omega) h
    rw [h2'] at IH ⊢
    obtain ⟨s0, hs0⟩ : ∃ s, szJ (L.take i) = s := ⟨_, rfl⟩
    obtain ⟨s1, hs1⟩ : ∃ s, szJ (L.take (i + 1)) = s := ⟨_, rfl⟩
    obtain ⟨sz, hz⟩ : ∃ s, szJ L = s := ⟨_, rfl⟩
    rw [hs0] at hs hsz hlen ⊢
    rw [hs1] at hsz hle IH
    rw [hz] at hle h2'
    have e1 : wrap64 ((((rd_T28 L i).f1).length : Int) + (((rd_T28 L i).f2).length : Int)) = (((rd_T28 L i).f1).length : Int) + (((rd_T28 L i).f2).length : Int) := w64 _ (by omega)
    obtain ⟨d1, hd1⟩ : ∃ z, (rd_T28 L i).f1.length = z := ⟨_, rfl⟩
    obtain ⟨d2, hd2⟩ : ∃ z, (rd_T28 L i).f2.length = z := ⟨_, rfl⟩
    rw [hd1, hd2] at hsz hlo hsi e1
    clear hs0 hs1 hz
    have e2' : (s0 : Int) + ((d1 : Int) + (d2 : Int)) = (s1 : Int) := by omega
    have e2 : s1 ≤ 9223372036854775807 → wrap64 ((s0 : Int) + ((d1 : Int) + (d2 : Int))) = (s1 : Int) := fun h => by rw [e2']; exact w64 _ (by omega)
    have hs1 : s1 ≤ 9223372036854775807 := by clear e1 e2 IH; omega
    have e3 : wrap64 ((i : Int) + 1) = ((i + 1 : Nat) : Int) := by rw [w64 _ (by clear e1 e2 IH; omega)]; rfl
    have hlt : (i : Int) < (L.length : Int) := by clear e1 e2 e3 IH; omega
    have hge : (0 : Int) ≤ (i : Int) := by clear e1 e2 e3 IH; omega
    by_cases hb : 16777216 < s1
    · have hb1 : (s1 : Int) > 16777216 := by clear e1 e2 e3 IH e2'; omega
      have hb2 : 16777216 < sz := by clear e1 e2 e3 IH e2'; omega
      refine ⟨1, ?_⟩
      rw [if_pos hb2] at h2'
      rw [sapperref16_Join.l1]
      simp only [hd1, hd2, e1, e2 hs1]
      rw [if_pos hlt, if_pos hge, if_pos hb1, ← h2']
    · have hb1 : ¬ (s1 : Int) > 16777216 := by clear e1 e2 e3 IH e2'; omega
      have hb3 : s1 ≤ 16777216 := by clear e1 e2 e3 IH e2'; omega
      obtain ⟨k1, h1⟩ := origins_f (hok _ hm) (hf _ hm)
      obtain ⟨k2, h2⟩ := IH hb3
      refine ⟨k1 + k2 + 1, ?_⟩
      have g1 := at_rounds (g := fun k => sapperref16_Origins.f k (rd_T28 L i).f0 (rd_T28 L i).f1 (rd_T28 L i).f2) (fun k => sapperref16_Origins.mono _ _ _ k) (Nat.le_add_right k1 k2) h1
      have g2 := at_rounds (g := fun k => sapperref16_Join.l1 k L (s1 : Int) (ogJ (L.take (i + 1))) ((i + 1 : Nat) : Int)) (fun k => (sapperref16_Join.mono_l k).2 _ _ _ _) (Nat.le_add_left k2 k1) h2
      have hfit : (ogJ (L.take i)).length + (og (rd_T28 L i).f0 (rd_T28 L i).f1 (rd_T28 L i).f2 0).length < 5864062014805 := by
        rw [hlen, hlo]
        clear e1 e2 e3 IH e2' g1 g2 h1 h2
        omega
      rw [sapperref16_Join.l1]
      simp only [hd1, hd2, e1, e2 hs1, e3]
      rw [if_pos hlt, if_pos hge, if_neg hb1, g1, Option.bind_some, if_pos hfit, ← ho]
      exact g2
theorem rjoin_l0 (L : List S28) (hl : L.length ≤ 1048576) (hf : ∀ e ∈ L, e.f0.length ≤ 1048576) (R : List S80 × List Int × List Int × Int) (h1 : badJ L = 0 → ∃ k, sapperref16_Join.l1 k L 0 [] 0 = some R) : ∀ (j i : Nat), i + j = L.length → (∀ e ∈ L.take i, (ited e.f0 e.f1 e.f2).2 = 0) →
    ∃ k, sapperref16_Join.l0 k L 0 i = some (if badJ (L.drop i) ≠ 0 then ([], [], [], badJ (L.drop i)) else R)
  | 0, i, hi, hok => by
    obtain rfl : i = L.length := by omega
    have hb : badJ L = 0 := badJ_all L (by rw [List.take_length] at hok; exact hok)
    obtain ⟨k, hk⟩ := h1 hb
    refine ⟨k + 1, ?_⟩
    rw [sapperref16_Join.l0, if_neg (by omega), hk, List.drop_length]
    simp [badJ]
  | j + 1, i, hi, hok => by
    have hil : i < L.length := by omega
    have hm := mem28 hil
    have hd : L.drop i = rd_T28 L i :: L.drop (i + 1) := by
      rw [List.drop_eq_getElem_cons hil]
      congr 1
      simp [rd_T28, List.getD_eq_getElem?_getD, List.getElem?_eq_getElem hil]
    obtain ⟨k1, g1⟩ := ritself_f (rd_T28 L i).f0 (rd_T28 L i).f1 (rd_T28 L i).f2 (hf _ hm)
    rw [hd, badJ]
    by_cases h0 : (ited (rd_T28 L i).f0 (rd_T28 L i).f1 (rd_T28 L i).f2).2 = 0
    · obtain ⟨k2, g2⟩ := rjoin_l0 L hl hf R h1 j (i + 1) (by omega) (fun e he => by
        rw [take_snoc28 hil] at he
        rcases List.mem_append.1 he with he | he
        · exact hok e he
        · rw [List.mem_singleton.1 he]; exact h0)
      refine ⟨k1 + k2 + 1, ?_⟩
      have f1 := ritself_mono (rd_T28 L i).f0 (rd_T28 L i).f1 (rd_T28 L i).f2 (show k1 ≤ k1 + k2 by omega) g1
      have f2 := at_rounds (g := fun k => sapperref16_Join.l0 k L 0 ((i + 1 : Nat) : Int)) (fun k => (sapperref16_Join.mono_l k).1 _ _ _) (show k2 ≤ k1 + k2 by omega) g2
      rw [sapperref16_Join.l0, if_pos (by omega), if_pos (by omega), f1, Option.bind_some, if_pos h0, w64 ((i : Int) + 1) (by omega), show ((i : Int) + 1) = ((i + 1 : Nat) : Int) by omega, if_neg (show ¬ (ited (rd_T28 L i).f0 (rd_T28 L i).f1 (rd_T28 L i).f2).2 ≠ 0 from fun h => h h0)]
      exact f2
    · refine ⟨k1 + 1, ?_⟩
      rw [sapperref16_Join.l0, if_pos (by omega), if_pos (by omega), g1, Option.bind_some, if_neg h0, if_pos h0, if_pos h0]
theorem rjoin_f (L : List S28) (hl : L.length ≤ 1048576) (hf : ∀ e ∈ L, e.f0.length ≤ 1048576) : ∃ k, sapperref16_Join.f k L = some (joinE L) := by
  obtain ⟨k, hk⟩ := rjoin_l0 L hl hf (if 16777216 < szJ L then ([], [], [], 162) else normOf (ogJ L)) (fun hb => by
    have := rjoin_l1 L hl hf (badJ_ok hb) L.length 0 (by omega) (by simp [szJ])
    simpa [szJ, ogJ] using this) L.length 0 (by omega) (by simp)
  exact ⟨k, hk⟩
theorem rjoin_c {A : Option Addr} {c : Nat} {L : List S28} {w : World} (h : Kd.C k28 w A L.length L) (hc : L.length ≤ c) (hl : L.length ≤ 1048576) (hf : ∀ e ∈ L, e.f0.length ≤ 1048576) : Calls Try.prog 46 #[.slice A L.length c] w (NormR w (joinE L)) := by
  obtain ⟨k, hk⟩ := rjoin_f L hl hf
  obtain ⟨⟨n0, n1, n2, n3⟩, hq⟩ : ∃ q, joinE L = q := ⟨_, rfl⟩
  rw [hq] at hk ⊢
  exact (sapperref16_Join.calls k A c L n0 n1 n2 n3 w h hc hk).mono (fun e w' h => h)
end Go.Proofs.Ytemlbjpefomboaa
