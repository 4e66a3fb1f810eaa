/- vcd: Tell by contract. -/
import Derived.Test.YtmfnjmecnhagmaaKb
namespace Go.Proofs.Ytmfnjmecnhagmaa
open Go.RowKit Go.ChangeShapes Go.WideShapes Go.Shelf Go.Maps Go.Proofs.YtmfnjmecnhagmaaW.PrintWords Go.Proofs.YtmfnjmecnhagmaaW.PrintLast Go.Proofs.YtmfnjmecnhagmaaW.PrintMore Go.Proofs.Ytmfnjmecnhagmaa.Pr
set_option linter.unusedVariables false
set_option linter.unusedSimpArgs false
/-- What a cache knows lies within. -/
structure Kc.Ok (k : Kc) : Prop where
  n : ∀ i, 0 ≤ k.near.getD i 0 ∧ k.near.getD i 0 ≤ 4611686018427387904
  s : ∀ i, 0 ≤ k.same.getD i 0 ∧ k.same.getD i 0 ≤ 4611686018427387904
theorem kc0_ok : kc0.Ok := by
  have h : ∀ (n i : Nat), (List.replicate n (0 : Int)).getD i 0 = 0 := fun n i => by
    rw [List.getD_eq_getElem?_getD, List.getElem?_replicate]
    split <;> rfl
  exact ⟨fun i => by show 0 ≤ (List.replicate 4 (0 : Int)).getD i 0 ∧ (List.replicate 4 (0 : Int)).getD i 0 ≤ _; rw [h]; decide, fun i => by show 0 ≤ (List.replicate 768 (0 : Int)).getD i 0 ∧ (List.replicate 768 (0 : Int)).getD i 0 ≤ _; rw [h]; decide⟩
theorem getD_set (l : List Int) (i j : Nat) (v : Int) : (l.set i v).getD j 0 = if i = j ∧ i < l.length then v else l.getD j 0 := by
  rw [List.getD_eq_getElem?_getD, List.getElem?_set, List.getD_eq_getElem?_getD]
  by_cases h : i = j
  · subst h
    by_cases h2 : i < l.length
    · simp [h2]
    · simp [h2, List.getElem?_eq_none (Nat.le_of_not_lt h2)]
  · simp [h]
theorem Kc.Ok.know {k : Kc} (h : k.Ok) (a : Nat) (ha : a ≤ 4611686018427387904) : (k.know a).Ok := by
  constructor
  · intro i
    show 0 ≤ (k.near.set k.next (a : Int)).getD i 0 ∧ (k.near.set k.next (a : Int)).getD i 0 ≤ _
    rw [getD_set]
    split
    · omega
    · exact h.n i
  · intro i
    show 0 ≤ (k.same.set (a % 768) (a : Int)).getD i 0 ∧ (k.same.set (a % 768) (a : Int)).getD i 0 ≤ _
    rw [getD_set]
    split
    · omega
    · exact h.s i
/-- The mode and the number so far, one near address more. -/
def nearS (near : List Int) (addr : Int) (s : Int × Int) (i : Nat) : Int × Int := if near.getD i 0 ≤ addr ∧ addr - near.getD i 0 < s.2 then (2 + (i : Int), addr - near.getD i 0) else s
def nearT (near : List Int) (addr here : Int) : Nat → Int × Int
  | 0 => if here - addr < addr then (1, here - addr) else (0, addr)
  | i + 1 => nearS near addr (nearT near addr here i) i
/-- How an address is told. -/
def tellR (k : Kc) (addr here : Nat) : Int × Int := if k.same.getD (addr % 768) 0 = addr then (6 + ((addr % 768 / 256 : Nat) : Int), ((addr % 768 % 256 : Nat) : Int)) else nearT k.near addr here 4
theorem nearT_bd (near : List Int) (addr here : Nat) (h : addr < here) : ∀ i, 0 ≤ (nearT near addr here i).2 ∧ (nearT near addr here i).2 ≤ addr ∧ 0 ≤ (nearT near addr here i).1 ∧ (nearT near addr here i).1 ≤ 2 + (i : Int)
  | 0 => by
    unfold nearT
    by_cases hc : (here : Int) - addr < addr
    · rw [if_pos hc]; simp only; omega
    · rw [if_neg hc]; simp only; omega
  | i + 1 => by
    have := nearT_bd near addr here h i
    rw [nearT, nearS]
    by_cases hc : near.getD i 0 ≤ addr ∧ (addr : Int) - near.getD i 0 < (nearT near addr here i).2
    · rw [if_pos hc]; simp only; omega
    · rw [if_neg hc]; omega
theorem index_near {P : Program} (ty : TypeId) (hu : P.underlying ty = some (.array 4 3)) (hi3 : P.underlying 3 = some (.int .i64)) (near : List Int) (hn : near.length = 4) (i : Nat) (hi : i < 4) (hsz : ∀ w : World, (sizeOf 3).run P w = .ok 1 w) (w : World) : (Instr.index ty (.agg (near.map iV).toArray) (.int .i64 (i : Int))).run P w = .ok (.int .i64 (near.getD i 0)) w := by
  have hag : (isAgg 3).run P w = .ok false w := by
    unfold isAgg
    rw [Sem.run_bind, run_underlying hi3 w]
    rfl
  have hl : (near.map iV)[i]? = some (.int .i64 (near.getD i 0)) := by
    rw [List.getElem?_map, List.getD_eq_getElem?_getD, List.getElem?_eq_getElem (by omega)]
    rfl
  have h1 : (0 : Int) ≤ (i : Int) ∧ (i : Int) < ((4 : Nat) : Int) := by omega
  unfold Instr.index
  simp [asIntOf, Sem.run_bind, run_underlying hu, hsz, part, hag, Result.andThen]
  rw [if_pos hi, List.getElem?_eq_getElem (show i < near.length by omega)]
  simp [iV]
theorem size3 (w : World) : (sizeOf 3).run Try.prog w = .ok 1 w := by kernel_rfl
set_option maxRecDepth 100000 in
set_option maxHeartbeats 16000000 in
theorem tell_c {W : World} {g : Nat} {k : Kc} (h : KB W g k) (ho : k.Ok) (addr here : Nat) (hah : addr < here) (hm : here ≤ 4611686018427387904) :
    Calls Try.prog 31 #[.pointer (some ⟨g, 0, none⟩), .int .i64 addr, .int .i64 here] W fun e w' => e = .returned (.tuple #[.int .i64 (tellR k addr here).1, .int .i64 (tellR k addr here).2, .int .i64 0]) ∧ KB w' g (k.know addr) ∧ On g W w' := by
  have d1 : decide ((here : Int) < 1) = false := decide_eq_false (by omega)
  have d2 : decide ((here : Int) > 4611686018427387904) = false := decide_eq_false (by omega)
  have d3 : decide ((addr : Int) < 0) = false := decide_eq_false (by omega)
  have d4 : decide ((addr : Int) ≥ (here : Int)) = false := decide_eq_false (by omega)
  have hra : W.rangeAt g 1 (k.near.map iV) := fun j v hv => by
    have hj : j < 4 := by
      have := (List.getElem?_eq_some_iff.1 hv).1
      rw [List.length_map, h.ln] at this
      exact this
    rw [List.getElem?_map, List.getElem?_eq_getElem (by rw [h.ln]; exact hj)] at hv
    have := (h.cell (1 + j) _ (cells_near k h.ln j hj)).1
    rw [List.getD_eq_getElem?_getD, List.getElem?_eq_getElem (by rw [h.ln]; exact hj)] at this
    rw [this]
    exact hv
  have hil : (Try.prog.info? 66).map (·.size) = some (k.near.map iV).length := by rw [List.length_map, h.ln]; kernel_rfl
  have HK := Hd.mk h
  have HO := Hd.mk ho
  have HRA := Hd.mk (And.intro hra hil)
  clear h ho hra hil
  go_enter Try.func31, Try.ntmps31
  go_wp2_with fail
  refine (is_c HK.out).mono ?_
  rintro e w1 ⟨rfl, rfl⟩
  obtain ⟨n6, _⟩ := HK.out.cell (6 + addr % 768) _ (cells_same k HK.out.ln HK.out.ls (addr % 768) (Nat.mod_lt _ (by omega)))
  simp only [iV] at n6
  obtain ⟨av, hav⟩ : ∃ av, av = addr % 768 := ⟨_, rfl⟩
  rw [← hav] at n6
  have hmod2 : (addr : Int) % 768 = (av : Int) := by omega
  have hav2 : (av : Int) < 768 := by omega
  have HAV := Hd.mk hav
  clear hav
  have hcs : (decide ((here : Int) - addr < addr) = true ∧ nearT k.near addr here 0 = (1, (here : Int) - addr) ∧ (here : Int) - addr < addr) ∨ (decide ((here : Int) - addr < addr) = false ∧ nearT k.near addr here 0 = (0, (addr : Int)) ∧ (addr : Int) ≤ (here : Int) - addr) := by
    by_cases h : (here : Int) - addr < addr
    · exact .inl ⟨decide_eq_true h, if_pos h, h⟩
    · exact .inr ⟨decide_eq_false h, if_neg h, by omega⟩
  rcases hcs with ⟨d5, hn0, d6⟩ | ⟨d5, hn0, d6⟩
  all_goals
    have HN0 := Hd.mk hn0
    clear hn0
    go_wp2_with (first | (refine wpList_load_mid rfl 66 _ rfl g 1 rfl (k.near.map iV) _ HRA.out.1 Try.underlying66 rfl HRA.out.2 ?_) | fail)
    go_loopg [9, 10, 46] 4 (fun q v9 v10 v46 W => ∃ i : Nat, v46 = .int .i64 i ∧ i + q = 4 ∧ v9 = .int .i64 (nearT k.near addr here i).1 ∧ v10 = .int .i64 (nearT k.near addr here i).2 ∧ W = w1)
    case atStart => exact ⟨0, rfl, by omega, by rw [HN0.out], by rw [HN0.out], rfl⟩
    case round =>
      clear d5 d6 HN0
      obtain ⟨i, rfl, hq, rfl, rfl, rfl⟩ := hrel
      have hbd := nearT_bd k.near addr here hah i
      rcases gk with _ | q
      rotate_left
      · have hlt : decide ((i : Int) < 4) = true := decide_eq_true (by omega)
        have hi : i < 4 := by omega
        have hrun := index_near (P := Try.prog) 66 Try.underlying66 Try.underlying3 k.near HK.out.ln i hi size3 wr
        have hnb := HO.out.n i
        have hs := show nearT k.near addr here (i + 1) = nearS k.near addr (nearT k.near addr here i) i from rfl
        unfold nearS at hs
        have hbd2 := nearT_bd k.near addr here hah (i + 1)
        rw [hs] at hbd2
        obtain ⟨mt, hT⟩ : ∃ r, nearT k.near addr here i = r := ⟨_, rfl⟩
        rw [hT] at hs hbd hbd2
        obtain ⟨m, t⟩ := mt
        obtain ⟨nv, hnv⟩ : ∃ v, k.near.getD i 0 = v := ⟨_, rfl⟩
        rw [hnv] at hs hbd2 hrun hnb
        simp only at hs hbd hbd2
        rw [hT]
        have HS := Hd.mk hs
        clear hT hnv hs hbd2
        have hcs : (decide ((addr : Int) ≥ nv) = true ∧ decide ((addr : Int) - nv < t) = true ∧ (nv ≤ (addr : Int) ∧ (addr : Int) - nv < t)) ∨ (decide ((addr : Int) ≥ nv) = true ∧ decide ((addr : Int) - nv < t) = false ∧ ¬ (nv ≤ (addr : Int) ∧ (addr : Int) - nv < t)) ∨ (decide ((addr : Int) ≥ nv) = false ∧ True ∧ ¬ (nv ≤ (addr : Int) ∧ (addr : Int) - nv < t)) := by
          by_cases h1 : nv ≤ (addr : Int)
          · by_cases h2 : (addr : Int) - nv < t
            · exact .inl ⟨decide_eq_true h1, decide_eq_true h2, h1, h2⟩
            · exact .inr (.inl ⟨decide_eq_true h1, decide_eq_false h2, fun h => h2 h.2⟩)
          · exact .inr (.inr ⟨decide_eq_false (by omega), trivial, fun h => h1 h.1⟩)
        rcases hcs with ⟨q1, q2, q3⟩ | ⟨q1, q2, q3⟩ | ⟨q1, q2, q3⟩
        · have hs := HS.out
          rw [if_pos q3] at hs
          have HS2 := Hd.mk hs
          obtain ⟨q4, q5⟩ := q3
          clear hs HS
          go_wp2_with (first | (refine wpList_index rfl 66 _ _ rfl _ _ _ rfl rfl hrun ?_) | fail)
          go_roundg q
          case measure => omega
          case rel => exact ⟨i + 1, by go_num, by omega, by rw [HS2.out], by rw [HS2.out], rfl⟩
        · have hs := HS.out
          rw [if_neg q3] at hs
          have HS2 := Hd.mk hs
          clear hs HS q3
          go_wp2_with (first | (refine wpList_index rfl 66 _ _ rfl _ _ _ rfl rfl hrun ?_) | fail)
          go_roundg q
          case measure => omega
          case rel => exact ⟨i + 1, by go_num, by omega, by rw [HS2.out], by rw [HS2.out], rfl⟩
        · have hs := HS.out
          rw [if_neg q3] at hs
          have HS2 := Hd.mk hs
          clear hs HS q3 q2
          go_wp2_with (first | (refine wpList_index rfl 66 _ _ rfl _ _ _ rfl rfl hrun ?_) | fail)
          go_roundg q
          case measure => omega
          case rel => exact ⟨i + 1, by go_num, by omega, by rw [HS2.out], by rw [HS2.out], rfl⟩
      have hlt : decide ((i : Int) < 4) = false := decide_eq_false (by omega)
      have hi4 : i = 4 := by omega
      subst hi4
      obtain ⟨sv, hsv⟩ : ∃ v, k.same.getD av 0 = v := ⟨_, rfl⟩
      obtain ⟨⟨m, t⟩, hT⟩ : ∃ r, nearT k.near addr here 4 = r := ⟨_, rfl⟩
      have hR : tellR k addr here = if sv = (addr : Int) then (6 + (av : Int) / 256, (av : Int) % 256) else (m, t) := by
        unfold tellR
        rw [← HAV.out, hsv, hT]
        by_cases he : sv = (addr : Int)
        · rw [if_pos he, if_pos he]; congr 1
        · rw [if_neg he, if_neg he]
      rw [hT] at hbd ⊢
      rw [hsv] at n6
      have HR := Hd.mk hR
      have HKN := Hd.mk (know_c HK.out addr (by omega))
      clear hR hT hsv
      by_cases he : sv = (addr : Int)
      · have hq : (sv == (addr : Int)) = true := by simpa using he
        have hr := HR.out
        rw [if_pos he] at hr
        have HR2 := Hd.mk hr
        clear he hr HR
        go_wp2_with fail
        refine HKN.out.mono ?_
        rintro e w2 ⟨rfl, hk2, hb2⟩
        have H2 := Hd.mk (And.intro hk2 hb2)
        clear hk2 hb2 HKN HK n6
        go_wp2
        go_ret3
        exact ⟨by rw [HR2.out]; rfl, H2.out⟩
      · have hq : (sv == (addr : Int)) = false := by simpa using he
        have hr := HR.out
        rw [if_neg he] at hr
        have HR2 := Hd.mk hr
        clear he hr HR
        go_wp2_with fail
        refine HKN.out.mono ?_
        rintro e w2 ⟨rfl, hk2, hb2⟩
        have H2 := Hd.mk (And.intro hk2 hb2)
        clear hk2 hb2 HKN HK n6
        go_wp2
        go_ret3
        exact ⟨by rw [HR2.out]; rfl, H2.out⟩
end Go.Proofs.Ytmfnjmecnhagmaa
