/- edit: are two edits the same, told alike by both. -/
import Derived.Test.YtemlbjpefomboaaE7
import Derived.Test.YtemlbjpefomboaaKe
import Derived.Test.YtemlbjpefomboaaOe
import Derived.Laws.Strings
namespace Go.Proofs.Ytemlbjpefomboaa
open Go.RowKit Go.Shelf Go.Proofs.YtemlbjpefomboaaW.PrintWords Go.Proofs.YtemlbjpefomboaaW.PrintLast Go.Proofs.YtemlbjpefomboaaW.PrintMore Go.Proofs.Ytemlbjpefomboaa.Pr
set_option linter.unusedVariables false
set_option linter.unusedSimpArgs false
theorem s80_ext {a b : S80} (h0 : a.f0 = b.f0) (h1 : a.f1 = b.f1) (h2 : a.f2 = b.f2) : a = b := by
  obtain ⟨a0, a1, a2⟩ := a
  obtain ⟨b0, b1, b2⟩ := b
  simp only at h0 h1 h2
  subst h0 h1 h2
  rfl
instance decS80 : DecidableEq S80 := fun a b => decidable_of_iff (a.f0 = b.f0 ∧ a.f1 = b.f1 ∧ a.f2 = b.f2) ⟨fun h => s80_ext h.1 h.2.1 h.2.2, fun h => by rw [h]; exact ⟨rfl, rfl, rfl⟩⟩
/-- Are they the same? -/
def sameE (st : List S80) (d x : List Int) (sb : List S80) (db xb : List Int) : Bool := decide (st = sb ∧ d = db ∧ x = xb)
theorem drop_rd80 (st : List S80) (i : Nat) (h : i < st.length) : st.drop i = rd_T80 st i :: st.drop (i + 1) := by
  rw [List.drop_eq_getElem_cons h]
  congr 1
  simp [rd_T80, List.getD_eq_getElem?_getD, List.getElem?_eq_getElem h]
theorem drop_rd8 (l : List Int) (i : Nat) (h : i < l.length) : l.drop i = rd l i :: l.drop (i + 1) := by
  rw [List.drop_eq_getElem_cons h]
  congr 1
  simp [rd, List.getD_eq_getElem?_getD, List.getElem?_eq_getElem h]
theorem equalA_l0 (d e : List Int) (hf : fits d) (hl : e.length = d.length) : ∀ (j i : Nat), i + j = d.length → slices_Equal_byte_byte.l0 (j + 1) d e (d.length : Int) i = some (decide (d.drop i = e.drop i))
  | 0, i, hi => by
    rw [slices_Equal_byte_byte.l0, if_neg (by omega), List.drop_eq_nil_of_le (by omega), List.drop_eq_nil_of_le (by omega)]
    rfl
  | j + 1, i, hi => by
    have hf' := hf
    unfold fits at hf
    rw [slices_Equal_byte_byte.l0, if_pos (by omega), if_pos (by omega), if_pos (by omega), if_pos (by omega), drop_rd8 d i (by omega), drop_rd8 e i (by omega)]
    by_cases h : rd d (i : Int) = rd e (i : Int)
    · rw [if_pos h, w64 _ (by omega), show ((i : Int) + 1) = ((i + 1 : Nat) : Int) by omega, equalA_l0 d e hf' hl j (i + 1) (by omega), h]
      simp
    · rw [if_neg h]
      simp [h]
theorem equalA_f (d e : List Int) (hf : fits d) : ∃ k, slices_Equal_byte_byte.f k d e = some (decide (d = e)) := by
  unfold slices_Equal_byte_byte.f
  by_cases hl : d.length = e.length
  · refine ⟨d.length + 1, ?_⟩
    rw [if_pos (by omega), show (0 : Int) = ((0 : Nat) : Int) from rfl, equalA_l0 d e hf hl.symm d.length 0 (by omega)]
    rfl
  · refine ⟨0, ?_⟩
    rw [if_neg (by omega)]
    congr 1
    exact (decide_eq_false (fun h => hl (by rw [h]))).symm
theorem alikeA_l0 (st : List S80) (d x : List Int) (sb : List S80) (db xb : List Int) (hf : fits st) (hd : fits d) (hx : fits x) (hl : sb.length = st.length) : ∀ (j i : Nat), i + j = st.length →
    ∃ k, edit_Alike.l0 k (st.length : Int) i st d x sb db xb = some (decide (st.drop i = sb.drop i ∧ d = db ∧ x = xb))
  | 0, i, hi => by
    obtain ⟨k1, h1⟩ := equalA_f d db hd
    obtain ⟨k2, h2⟩ := equalA_f x xb hx
    have g1 := at_rounds (g := fun k => slices_Equal_byte_byte.f k d db) (fun k => slices_Equal_byte_byte.mono _ _ k) (show k1 ≤ k1 + k2 by omega) h1
    have g2 := at_rounds (g := fun k => slices_Equal_byte_byte.f k x xb) (fun k => slices_Equal_byte_byte.mono _ _ k) (show k2 ≤ k1 + k2 by omega) h2
    refine ⟨k1 + k2 + 1, ?_⟩
    rw [edit_Alike.l0, if_neg (by omega), g1, Option.bind_some, List.drop_eq_nil_of_le (show st.length ≤ i by omega), List.drop_eq_nil_of_le (show sb.length ≤ i by omega)]
    by_cases e1 : d = db
    · rw [if_pos (by simpa using e1), g2, Option.bind_some]
      simp [e1]
    · rw [if_neg (by simpa using e1)]
      simp [e1]
  | j + 1, i, hi => by
    obtain ⟨k, hk⟩ := alikeA_l0 st d x sb db xb hf hd hx hl j (i + 1) (by omega)
    unfold fits at hf
    refine ⟨k + 1, ?_⟩
    rw [edit_Alike.l0, if_pos (by omega), if_pos (by omega), if_pos (by omega), if_pos (by omega), drop_rd80 st i (by omega), drop_rd80 sb i (by omega)]
    by_cases h : rd_T80 st (i : Int) = rd_T80 sb (i : Int)
    · rw [h, if_neg (by simp), w64 _ (by omega), show ((i : Int) + 1) = ((i + 1 : Nat) : Int) by omega, hk]
      simp
    · rw [if_pos (by
        by_cases e0 : (rd_T80 st (i : Int)).f0 = (rd_T80 sb (i : Int)).f0
        · by_cases e1 : (rd_T80 st (i : Int)).f1 = (rd_T80 sb (i : Int)).f1
          · by_cases e2 : (rd_T80 st (i : Int)).f2 = (rd_T80 sb (i : Int)).f2
            · exact absurd (s80_ext e0 e1 e2) h
            · simp [e2]
          · simp [e1]
        · simp [e0])]
      simp [h]
theorem alikeA_f (st : List S80) (d x : List Int) (sb : List S80) (db xb : List Int) (hf : fits st) (hd : fits d) (hx : fits x) : ∃ k, edit_Alike.f k st d x sb db xb = some (sameE st d x sb db xb) := by
  unfold edit_Alike.f sameE
  by_cases hl : st.length = sb.length
  · obtain ⟨k, hk⟩ := alikeA_l0 st d x sb db xb hf hd hx hl.symm st.length 0 (by omega)
    refine ⟨k, ?_⟩
    rw [if_pos (by omega)]
    exact hk
  · refine ⟨0, ?_⟩
    rw [if_neg (by omega)]
    congr 1
    exact (decide_eq_false (fun h => hl (by rw [h.1]))).symm
theorem byte_inj {a b : Int} (ha : 0 ≤ a ∧ a ≤ 255) (hb : 0 ≤ b ∧ b ≤ 255) (h : UInt8.ofNat a.toNat = UInt8.ofNat b.toNat) : a = b := by
  have := congrArg UInt8.toNat h
  simp only [UInt8.toNat_ofNat'] at this
  omega
theorem bytes_inj : ∀ (l m : List Int), (∀ b ∈ l, 0 ≤ b ∧ b ≤ 255) → (∀ b ∈ m, 0 ≤ b ∧ b ≤ 255) → l.map (fun n => UInt8.ofNat n.toNat) = m.map (fun n => UInt8.ofNat n.toNat) → l = m
  | [], [], _, _, _ => rfl
  | [], _ :: _, _, _, h => by simp at h
  | _ :: _, [], _, _, h => by simp at h
  | a :: l, b :: m, hl, hm, h => by
    simp only [List.map_cons, List.cons.injEq] at h
    rw [byte_inj (hl a List.mem_cons_self) (hm b List.mem_cons_self) h.1, bytes_inj l m (fun z hz => hl z (List.mem_cons_of_mem _ hz)) (fun z hz => hm z (List.mem_cons_of_mem _ hz)) h.2]
theorem str_inj {l m : List Int} (hl : ∀ b ∈ l, 0 ≤ b ∧ b ≤ 255) (hm : ∀ b ∈ m, 0 ≤ b ∧ b ≤ 255) : (strOfNums l).toList = (strOfNums m).toList ↔ l = m := by
  refine ⟨fun h => ?_, fun h => by rw [h]⟩
  rw [ByteArray.toList_eq, ByteArray.toList_eq, strOfNums_data, strOfNums_data] at h
  exact bytes_inj l m hl hm h
theorem ralikeA_l0 (st : List S80) (d x : List Int) (sb : List S80) (db xb : List Int) (hf : fits st) (hl : sb.length = st.length) : ∀ (j i : Nat), i + j = st.length → sapperref16_Alike.l0 (j + 1) i st d x sb db xb = some (decide (st.drop i = sb.drop i))
  | 0, i, hi => by
    rw [sapperref16_Alike.l0, if_neg (by omega), List.drop_eq_nil_of_le (show st.length ≤ i by omega), List.drop_eq_nil_of_le (show sb.length ≤ i by omega)]
    rfl
  | j + 1, i, hi => by
    have hf' := hf
    unfold fits at hf
    rw [sapperref16_Alike.l0, if_pos (by omega), if_pos (by omega), if_pos (by omega), drop_rd80 st i (by omega), drop_rd80 sb i (by omega)]
    by_cases h : rd_T80 st (i : Int) = rd_T80 sb (i : Int)
    · rw [h, if_neg (by simp), w64 _ (by omega), show ((i : Int) + 1) = ((i + 1 : Nat) : Int) by omega, ralikeA_l0 st d x sb db xb hf' hl j (i + 1) (by omega)]
      simp
    · rw [if_pos (by
        by_cases e0 : (rd_T80 st (i : Int)).f0 = (rd_T80 sb (i : Int)).f0
        · by_cases e1 : (rd_T80 st (i : Int)).f1 = (rd_T80 sb (i : Int)).f1
          · by_cases e2 : (rd_T80 st (i : Int)).f2 = (rd_T80 sb (i : Int)).f2
            · exact absurd (s80_ext e0 e1 e2) h
            · simp [e2]
          · simp [e1]
        · simp [e0])]
      simp [h]
theorem ralikeA_f (st : List S80) (d x : List Int) (sb : List S80) (db xb : List Int) (hf : fits st) (hd : ∀ b ∈ d, 0 ≤ b ∧ b ≤ 255) (hdb : ∀ b ∈ db, 0 ≤ b ∧ b ≤ 255) (hx : ∀ b ∈ x, 0 ≤ b ∧ b ≤ 255) (hxb : ∀ b ∈ xb, 0 ≤ b ∧ b ≤ 255) :
    ∃ k, sapperref16_Alike.f k st d x sb db xb = some (sameE st d x sb db xb) := by
  refine ⟨st.length + 1 + 1, ?_⟩
  have ht : sapperref16_Alike.j0 (st.length + 1 + 1) true st d x sb db xb = some false := by rw [sapperref16_Alike.j0, if_pos rfl]
  unfold sapperref16_Alike.f sameE
  by_cases hl : st.length = sb.length
  · rw [if_pos (by omega)]
    by_cases h1 : d = db
    · rw [if_pos ((str_inj hd hdb).2 h1)]
      by_cases h2 : x = xb
      · have e : ((strOfNums x).toList != (strOfNums xb).toList) = false := by rw [h2]; simp
        rw [e, sapperref16_Alike.j0, if_neg (by decide), show (0 : Int) = ((0 : Nat) : Int) from rfl, ralikeA_l0 st d x sb db xb hf hl.symm st.length 0 (by omega)]
        simp [h1, h2]
      · have e : ((strOfNums x).toList != (strOfNums xb).toList) = true := by
          simp only [bne_iff_ne, ne_eq]
          exact fun h => h2 ((str_inj hx hxb).1 h)
        rw [e, ht]
        simp [h2]
    · rw [if_neg (fun h => h1 ((str_inj hd hdb).1 h)), ht]
      simp [h1]
  · rw [if_neg (by omega), ht]
    congr 1
    exact (decide_eq_false (fun h => hl (by rw [h.1]))).symm
theorem alikeA_c {A0 : Option Addr} {c0 : Nat} {st : List S80} {A1 : Option Addr} {c1 : Nat} {d : List Int} {A2 : Option Addr} {c2 : Nat} {x : List Int} {D0 : Option Addr} {g0 : Nat} {sb : List S80} {D1 : Option Addr} {g1 : Nat} {db : List Int} {D2 : Option Addr} {g2 : Nat} {xb : List Int} {w : World}
    (hE : EdC w A0 c0 st A1 c1 d A2 c2 x) (hG : EdC w D0 g0 sb D1 g1 db D2 g2 xb) {r : Bool} (hr : sameE st d x sb db xb = r) :
    Calls Try.prog 32 #[.agg #[.slice A0 st.length c0, .slice A1 d.length c1, .slice A2 x.length c2], .agg #[.slice D0 sb.length g0, .slice D1 db.length g1, .slice D2 xb.length g2]] w fun e w' => e = .returned (.bool r) ∧ Below w.heap.size w w' := by
  obtain ⟨k, hk⟩ := alikeA_f st d x sb db xb hE.s.2.1 hE.di.2.1 hE.ex.2.1
  rw [hr] at hk
  exact edit_Alike.calls k A0 c0 st A1 c1 d A2 c2 x D0 g0 sb D1 g1 db D2 g2 xb r w hE.s hE.hs hE.di hE.hd hE.ex hE.hx hG.s hG.hs hG.di hG.hd hG.ex hG.hx hk
theorem ralikeA_c {A0 : Option Addr} {c0 : Nat} {st : List S80} {A1 : Option Addr} {c1 : Nat} {d : List Int} {A2 : Option Addr} {c2 : Nat} {x : List Int} {D0 : Option Addr} {g0 : Nat} {sb : List S80} {D1 : Option Addr} {g1 : Nat} {db : List Int} {D2 : Option Addr} {g2 : Nat} {xb : List Int} {w : World}
    (hE : EdC w A0 c0 st A1 c1 d A2 c2 x) (hG : EdC w D0 g0 sb D1 g1 db D2 g2 xb) (hd : ∀ b ∈ d, 0 ≤ b ∧ b ≤ 255) (hdb : ∀ b ∈ db, 0 ≤ b ∧ b ≤ 255) (hx : ∀ b ∈ x, 0 ≤ b ∧ b ≤ 255) (hxb : ∀ b ∈ xb, 0 ≤ b ∧ b ≤ 255) {r : Bool} (hr : sameE st d x sb db xb = r) :
    Calls Try.prog 33 #[.agg #[.slice A0 st.length c0, .slice A1 d.length c1, .slice A2 x.length c2], .agg #[.slice D0 sb.length g0, .slice D1 db.length g1, .slice D2 xb.length g2]] w fun e w' => e = .returned (.bool r) ∧ Below w.heap.size w w' := by
  obtain ⟨k, hk⟩ := ralikeA_f st d x sb db xb hE.s.2.1 hd hdb hx hxb
  rw [hr] at hk
  exact sapperref16_Alike.calls k A0 c0 st A1 c1 d A2 c2 x D0 g0 sb D1 g1 db D2 g2 xb r w hE.s hE.hs hE.di hE.hd hE.ex hE.hx hG.s hG.hs hG.di hG.hd hG.ex hG.hx hk
end Go.Proofs.Ytemlbjpefomboaa
namespace Go.Proofs.Ytemlbjpefomboaa
open Go.RowKit Go.ChangeShapes Go.WideShapes Go.Proofs.YtemlbjpefomboaaW.PrintWords Go.Proofs.Ytemlbjpefomboaa.Pr
set_option linter.unusedVariables false
theorem slice_weight {H : Type} {enc : TypeId × Value → H} {W : World} {base : Nat} {sp : Nat → Bool} {held : Bool} {m : Nat} {t e : TypeId} {n c b : Nat} {A : Option Addr} {y : DataW H × List MemPlace} (hu : Try.prog.underlying t = some (.slice e)) (hb : Try.prog.bytesOf e = b) (h : DataW.trod enc Try.prog W base sp held m t [.slice A n c] = some y)
    (hw : ∀ k ∈ y.1.weights Try.prog t, k ≤ reachBytes) : n * b ≤ 140737488351232 := by
  rcases Go.Deep.open_slice hu h with ⟨hcs, rfl⟩ | ⟨a, len, cap, m', n', D, Pl, hcs, _, hl, hm, hmm, rfl, _⟩
  · cases (List.cons.inj hcs).1
    simp
  · cases (List.cons.inj hcs).1
    have h1 := hw ((((List.range n).map D).length + ((List.range (m' - n)).map fun j => D (n + j)).length) * Try.prog.bytesOf e) (by
      simp only [DataW.weights, hu]
      exact List.mem_cons_self)
    rw [hb] at h1
    simp only [List.length_map, List.length_range] at h1
    have h2 : n * b ≤ (n + (m' - n)) * b := Nat.mul_le_mul_right _ (by omega)
    have h3 : reachBytes = 140737488351232 := rfl
    omega
set_option maxRecDepth 100000 in
theorem open_editW {H : Type} {enc : TypeId × Value → H} {W : World} {base : Nat} {v : Value} {d : DataW H} {p : List MemPlace} (hv : Value.okWide Try.prog W .any base 28 v)
    (h : DataW.Trod enc Try.prog W 0 (fun _ => true) true 28 v d p) (hw : ∀ n ∈ d.weights Try.prog 28, n ≤ reachBytes) :
    ∃ (A0 : Option Addr) (c0 : Nat) (st : List S80) (A1 : Option Addr) (c1 : Nat) (di : List Int) (A2 : Option Addr) (c2 : Nat) (ex : List Int), v = .agg #[.slice A0 st.length c0, .slice A1 di.length c1, .slice A2 ex.length c2] ∧
      (EdI W A0 c0 st A1 c1 di A2 c2 ex ∧ st.length * 24 ≤ 140737488351232 ∧ di.length * 1 ≤ 140737488351232 ∧ ex.length * 1 ≤ 140737488351232) := by
  obtain ⟨v0, v1, v2, y0, y1, y2, n, rfl, rfl, rfl, t0, t1, t2⟩ := Go.Joins.open_agg3 Try.underlying28 (by kernel_rfl) (by kernel_rfl) hv h
  have w0 : ∀ k ∈ y0.1.weights Try.prog 26, k ≤ reachBytes := fun k hk => hw k (by simp [DataW.weights, DataW.weightsEach, Try.underlying28, hk])
  have w1 : ∀ k ∈ y1.1.weights Try.prog 25, k ≤ reachBytes := fun k hk => hw k (by simp [DataW.weights, DataW.weightsEach, Try.underlying28, hk])
  have w2 : ∀ k ∈ y2.1.weights Try.prog 25, k ≤ reachBytes := fun k hk => hw k (by simp [DataW.weights, DataW.weightsEach, Try.underlying28, hk])
  obtain ⟨A0, c0, st, rfl, h0, h1, h2, h3⟩ := steps_of_trod t0
  obtain ⟨A1, c1, di, rfl, k1, k2⟩ := bytes_of_trod t1
  obtain ⟨A2, c2, ex, rfl, l1, l2⟩ := bytes_of_trod t2
  exact ⟨A0, c0, st, A1, c1, di, A2, c2, ex, rfl, ⟨⟨h0, k1.r, l1.r, h1, k1.hc, l1.hc⟩, h2, k1.hr, l1.hr⟩, slice_weight Try.underlying26 (by kernel_rfl) t0 w0, slice_weight Try.underlying25 (by kernel_rfl) t1 w1, slice_weight Try.underlying25 (by kernel_rfl) t2 w2⟩
end Go.Proofs.Ytemlbjpefomboaa
