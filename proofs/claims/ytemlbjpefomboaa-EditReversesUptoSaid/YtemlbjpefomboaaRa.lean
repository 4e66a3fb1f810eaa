/- edit: the document's Apply, by contract. -/
import Derived.Test.YtemlbjpefomboaaRc
import Derived.Test.YtemlbjpefomboaaE8
namespace Go.Proofs.Ytemlbjpefomboaa
open Go.RowKit Go.Shelf Go.Proofs.YtemlbjpefomboaaW.PrintWords Go.Proofs.YtemlbjpefomboaaW.PrintLast Go.Proofs.YtemlbjpefomboaaW.PrintMore Go.Proofs.Ytemlbjpefomboaa.Pr
set_option linter.unusedVariables false
set_option linter.unusedSimpArgs false
theorem rapply_l0 (old : List Int) (L : List S94) (hf : L.length ≤ 16777216) (hin : Inn old.length L) : ∀ (j i : Nat) (acc : List Int), i + j = L.length → acc.length = i →
    sapperref16_Apply.l0 (j + 1) old L acc i = some (acc ++ (L.drop i).map (ob old), 0)
  | 0, i, acc, hi, ha => by
    obtain rfl : i = L.length := by omega
    rw [sapperref16_Apply.l0, if_neg (by omega), List.drop_length]
    simp
  | j + 1, i, acc, hi, ha => by
    have hlt : i < L.length := by omega
    have hg : rd_T94 L i = L[i] := by simp [rd_T94, List.getD_eq_getElem?_getD, List.getElem?_eq_getElem hlt]
    have hd : L.drop i = rd_T94 L i :: L.drop (i + 1) := by rw [List.drop_eq_getElem_cons hlt, hg]
    have hmem : rd_T94 L i ∈ L := by rw [hg]; exact List.getElem_mem hlt
    rw [sapperref16_Apply.l0, if_pos (by omega), if_pos (by omega), hd, List.map_cons]
    have ih := fun b => rapply_l0 old L hf hin j (i + 1) (acc ++ [b]) (by omega) (by simp; omega)
    by_cases h0 : (rd_T94 L i).f0 = true
    · obtain ⟨h1, h2⟩ := hin _ hmem h0
      rw [if_pos h0, if_pos h1, if_pos h2, if_pos (by omega), w64 ((i : Int) + 1) (by omega), show ((i : Int) + 1) = ((i + 1 : Nat) : Int) by omega, ih, List.append_assoc, List.singleton_append]
      simp only [ob]
      rw [if_pos h0, Int.add_comm]
    · rw [if_neg h0, if_pos (by omega), w64 ((i : Int) + 1) (by omega), show ((i : Int) + 1) = ((i + 1 : Nat) : Int) by omega, ih, List.append_assoc, List.singleton_append]
      simp only [ob]
      rw [if_neg h0]
theorem rapply_f (old : List Int) (st : List S80) (d x : List Int) (ho : old.length ≤ 16777216) (hf : st.length ≤ 1048576) : ∃ k, sapperref16_Apply.f k old st d x = some (applied old st d x, appliedE old st d x) := by
  obtain ⟨k0, hk0⟩ := ritself_f st d x hf
  by_cases h : (ited st d x).2 = 0
  · have hall := (ited_all h).1
    obtain ⟨k1, hk1⟩ := origins_f h hf
    have hlen : (og st d x 0).length ≤ 16777216 := by
      have := og_len st d x 0 hall (ited_all h).2.2.1 (ited_all h).2.2.2.1
      have := (ited_all h).2.1
      omega
    obtain ⟨k2, hk2⟩ := outside_f (og st d x 0) old.length (by unfold fits; omega)
    refine ⟨k0 + k1 + k2 + ((og st d x 0).length + 1), ?_⟩
    have g0 := ritself_mono st d x (show k0 ≤ k0 + k1 + k2 + ((og st d x 0).length + 1) by omega) hk0
    have g1 : sapperref16_Origins.f (k0 + k1 + k2 + ((og st d x 0).length + 1)) st d x = some (og st d x 0) := at_rounds (g := fun k => sapperref16_Origins.f k st d x) (fun k => sapperref16_Origins.mono st d x k) (by omega) hk1
    have g2 : sapperref16_outside.f (k0 + k1 + k2 + ((og st d x 0).length + 1)) (og st d x 0) old.length = some ((og st d x 0).any (outB old.length)) := at_rounds (g := fun k => sapperref16_outside.f k (og st d x 0) old.length) (fun k => sapperref16_outside.mono (og st d x 0) old.length k) (by omega) hk2
    unfold sapperref16_Apply.f
    rw [if_neg (by omega), g0, Option.bind_some, if_pos h, g1, Option.bind_some, g2, Option.bind_some, out_rds hall hf]
    have hE : appliedE old st d x = if rds old.length st 0 = false then 161 else 0 := by unfold appliedE; rw [if_neg (by omega), if_neg (fun h' => h' h)]
    cases hr : rds old.length st 0 with
    | false =>
      rw [hr, if_pos rfl] at hE
      rw [if_pos (show (!false) = true from rfl)]
      unfold applied
      rw [hE]
      rfl
    | true =>
      rw [hr, if_neg (by decide)] at hE
      rw [if_neg (show ¬ (!true) = true by decide)]
      unfold applied
      rw [hE, if_pos rfl]
      have := rapply_l0 old (og st d x 0) hlen (inn_of hall hf hr) (og st d x 0).length 0 [] (by omega) rfl
      rw [List.drop_zero, List.nil_append] at this
      exact at_rounds (g := fun k => sapperref16_Apply.l0 k old (og st d x 0) [] ((0 : Nat) : Int)) (fun k => sapperref16_Apply.mono_l k _ _ _ _) (Nat.le_add_left _ _) this
  · refine ⟨k0, ?_⟩
    have hE : appliedE old st d x = (ited st d x).2 := by unfold appliedE; rw [if_neg (by omega), if_pos h]
    unfold sapperref16_Apply.f applied
    rw [if_neg (by omega), hk0, Option.bind_some, if_neg h, hE, if_neg h]
theorem rapply_c {Ao : Option Addr} {co : Nat} {old : List Int} {A0 : Option Addr} {c0 : Nat} {st : List S80} {A1 : Option Addr} {c1 : Nat} {d : List Int} {A2 : Option Addr} {c2 : Nat} {x : List Int} {w : World}
    (hO : Kd.C (Kd.int .u8) w Ao old.length old) (hoc : old.length ≤ co) (h : EdC w A0 c0 st A1 c1 d A2 c2 x) (ho : old.length ≤ 16777216) (hf : st.length ≤ 1048576) :
    Calls Try.prog 25 #[.slice Ao old.length co, EdV A0 st.length c0 A1 d.length c1 A2 x.length c2] w fun e w' => ∃ v, e = .returned (.tuple #[v, .int .i64 (appliedE old st d x)]) ∧
      Kd.R (Kd.int .u8) 5 w' w.heap.size (fun _ => True) v (applied old st d x) ∧ Below w.heap.size w w' := by
  obtain ⟨k, hk⟩ := rapply_f old st d x ho hf
  exact sapperref16_Apply.calls k Ao co old A0 c0 st A1 c1 d A2 c2 x _ _ w hO hoc h.s h.hs h.di h.hd h.ex h.hx hk
end Go.Proofs.Ytemlbjpefomboaa
