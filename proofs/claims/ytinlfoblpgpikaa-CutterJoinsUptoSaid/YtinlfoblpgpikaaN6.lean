/- the reference's Own: lists of bytes that have memory of their own. -/
import Derived.Test.YtinlfoblpgpikaaN5
namespace Go.Proofs.Ytinlfoblpgpikaa
open Go.RowKit Go.Proofs.YtinlfoblpgpikaaW.PrintWords Go.Proofs.YtinlfoblpgpikaaW.PrintLast Go.Proofs.YtinlfoblpgpikaaW.PrintMore
set_option linter.unusedVariables false
set_option linter.unusedSimpArgs false

theorem eltBB : Elt Try.prog 101 24 (.slice none 0 0) 1 24 := ⟨Try.underlying101, by kernel_rfl, rfl, by decide, by decide⟩

def mk (i n : Nat) : List Int := (List.range n).map fun k : Nat => ((i : Int) + 7 * (k : Int)) % 256
def gr (i n : Nat) : List Int := (List.range n).map fun k : Nat => ((i : Int) + 131 + 3 * (k : Int)) % 256
theorem mk_len (i n : Nat) : (mk i n).length = n := by simp [mk]
theorem gr_len (i n : Nat) : (gr i n).length = n := by simp [gr]
theorem mk_set (i k : Nat) (xs : List Int) (h : k < xs.length) : (mk i k ++ xs.drop k).set k (((i : Int) + 7 * (k : Int)) % 256) = mk i (k + 1) ++ xs.drop (k + 1) := by
  rw [List.set_append_right _ _ (by rw [mk_len]; exact Nat.le_refl _), mk_len, Nat.sub_self]
  rw [List.drop_eq_getElem_cons h, List.set_cons_zero]
  simp [mk, List.range_succ]
theorem mk_mid (i p : Nat) (xs : List Int) (h : p ≤ xs.length) : (mk i p ++ xs.drop p).length = xs.length := by
  rw [List.length_append, mk_len, List.length_drop]; omega
theorem gb_mk (i m p : Nat) (h : p < m) : gb (mk i m) p = ((i : Int) + 7 * (p : Int)) % 256 := by
  unfold gb mk
  simp [List.getD_eq_getElem?_getD, h]
theorem gb_gr (i m p : Nat) (h : p < 24) : gb (mk i m ++ gr i 24) (m + p) = ((i : Int) + 131 + 3 * (p : Int)) % 256 := by
  unfold gb gr
  rw [List.getD_eq_getElem?_getD, List.getElem?_append_right (by rw [mk_len]; omega), mk_len]
  simp [h]
theorem gr_snoc (i m : Nat) : gr i (m + 1) = gr i m ++ [((i : Int) + 131 + 3 * (m : Int)) % 256] := by simp [gr, List.range_succ]

/-- The rows of a family. -/
def Fam (w : World) (base n : Nat) (vs : Nat → Value) (xs : Nat → List Int) : Prop := ∀ j, j < n → OB w base (vs j) (xs j)
def FamS (n : Nat) (vs : Nat → Value) : Nat → Prop := fun k => ∃ j, j < n ∧ (vs j).ownBlock = some k
theorem Fam.upd {S : Nat → Prop} {w w' : World} {base n : Nat} {vs : Nat → Value} {xs : Nat → List Int} (h : Fam w base n vs xs) (hu : Upd S w w') (hs : ∀ k, S k → ∀ j, j < n → (vs j).ownBlock ≠ some k) : Fam w' base n vs xs :=
  fun j hj => own_upd (h j hj) hu (fun k hk hS => hs k hS j hj hk)
/-- One of them has turned. -/
theorem Fam.one {w w' : World} {base n i : Nat} {vs : Nat → Value} {xs ys : Nat → List Int} (h : Fam w base n vs xs) (hu : Upd (fun k => (vs i).ownBlock = some k) w w')
    (hne : ∀ j, j < n → j ≠ i → ∀ k, (vs j).ownBlock = some k → (vs i).ownBlock ≠ some k) (hi : OB w' base (vs i) (ys i)) (hy : ∀ j, j < n → j ≠ i → ys j = xs j) : Fam w' base n vs ys := by
  intro j hj
  by_cases e : j = i
  · subst e
    exact hi
  · rw [hy j hj e]
    exact own_upd (h j hj) hu (fun k hk hS => hne j hj e k hk hS)

def up (gl : Nat → Value) (i : Nat) (u : Value) : Nat → Value := fun j => if j = i then u else gl j
theorem up_set (gl : Nat → Value) (n i : Nat) (u : Value) (h : i < n) : ((List.range n).map gl).set i u = (List.range n).map (up gl i u) := by
  apply List.ext_getElem?
  intro j
  rw [List.getElem?_set]
  by_cases e : i = j
  · subst e
    simp [h, up]
  · rw [if_neg e]
    simp only [List.getElem?_map]
    rcases Nat.lt_or_ge j n with hj | hj
    · rw [List.getElem?_range hj]
      simp [up, Ne.symm e]
    · rw [List.getElem?_eq_none (by simpa using hj)]
      rfl
theorem up_up (gl : Nat → Value) (i : Nat) (u v : Value) : up (up gl i u) i v = up gl i v := by
  funext j
  unfold up
  split <;> rfl
theorem up_same (gl : Nat → Value) (i : Nat) (u : Value) : up gl i u i = u := by simp [up]
/-- The row of rows. -/
abbrev GR (w : World) (G n : Nat) (gl : Nat → Value) : Prop := w.ownsRow G 24 1 (.slice (some ⟨G, 0, none⟩) n n) n ((List.range n).map gl)
theorem GR.cell {w : World} {G n : Nat} {gl : Nat → Value} (h : GR w G n gl) (i : Nat) (hi : i < n) : w.cell? ⟨G, i, none⟩ = some (gl i) := by
  rw [World.ownsRow.cellAt h i (by omega)]
  simp [hi]
theorem GR.store {w : World} {G n : Nat} {gl : Nat → Value} (h : GR w G n gl) (i : Nat) (hi : i < n) (u : Value) : GR (w.setCell ⟨G, i, none⟩ u) G n (up gl i u) := by
  have := (World.ownsRow.stored h i u).1
  rwa [up_set gl n i u hi] at this

set_option maxHeartbeats 2000000 in
theorem own_calls (n : Nat) (vs : Nat → Value) (xs : Nat → List Int) (L c base : Nat) (w : World) (hn : n ≤ 100) (hL : ∀ j, j < n → w.cell? ⟨L, j, none⟩ = some (vs j)) (hLlt : L < w.heap.size)
    (hbase : base ≤ w.heap.size) (hv : Fam w base n vs xs) (hlen : ∀ j, j < n → (xs j).length ≤ 200000000000000)
    (hne : ∀ i j, i < n → j < n → j ≠ i → ∀ k, (vs j).ownBlock = some k → (vs i).ownBlock ≠ some k) (hLne : ∀ j, j < n → (vs j).ownBlock ≠ some L) :
    Calls Try.prog 27 #[.slice (some ⟨L, 0, none⟩) n c] w fun e w' => e = .returned (.bool true) ∧ Upd (FamS n vs) w w' := by
  have HL := Hd.mk hL
  have HV := Hd.mk hv
  have HN := Hd.mk hlen
  have HNE := Hd.mk hne
  have HLNE := Hd.mk hLne
  obtain ⟨i0, hi, hz0, hz1, hz2⟩ := info_parts eltBB.hi
  have HI := Hd.mk (And.intro hi (And.intro hz0 (And.intro hz1 hz2)))
  have HSlt : Hd (∀ k, FamS n vs k → k < w.heap.size) := ⟨fun k ⟨j, hj, hk⟩ => own_lt (hv j hj) k hk⟩
  clear hL hv hlen hne hLne hi hz0 hz1 hz2
  go_enter Try.func27, Try.ntmps27
  go_wp2_with (first
    | (at_make; go_must (refine wpList_make_full _ rfl _ _ _ rfl w.heap.size 24 i0 (.slice none 0 0) 1 Try.underlying101 HI.out.1 HI.out.2.1 HI.out.2.2.1 .i64 .i64 _ _ n rfl rfl rfl rfl (by rw [HI.out.2.2.2]; omega) (by simp only [maxLen]; omega) (Nat.le_refl _) ?_); intro w1 h1 h2; have H1 := Hd.mk h1; have HU0 := Hd.mk (show Upd (fun _ => False) w w1 from Upd.of_grown h2 (fun k e => by cases e)); clear h1 h2))
  have hws1 := HU0.out.size
  have HU1 := Hd.mk (show Upd (FamS n vs) w w1 from HU0.out.mono (fun _ h => h.elim))
  go_loopg [19] n (fun k y w' => ∃ i : Nat, y = .int .i64 i ∧ i + k = n ∧ Hd (Fam w' base n vs (fun j => if j < i then mk j (xs j).length else xs j)) ∧ Hd (Upd (FamS n vs) w1 w'))
  case atStart => exact ⟨0, rfl, by omega, ⟨Fam.upd HV.out HU0.out (fun k hk => hk.elim)⟩, ⟨Upd.refl _ _⟩⟩
  case round =>
    obtain ⟨i, rfl, hi, HF, HU⟩ := hrel
    rcases Nat.eq_zero_or_pos gk with rfl | hp
    · obtain rfl : n = i := by omega
      obtain ⟨w2, rfl⟩ : ∃ w2 : World, w2 = wr := ⟨_, rfl⟩
      have HF2 : Hd (Fam w2 base n vs (fun j => mk j (xs j).length)) := ⟨fun j hj => by have := HF.out j hj; simpa [hj] using this⟩
      have hGlt : w.heap.size < w1.heap.size := own_lt H1.out _ rfl
      have hws2 := HU.out.size
      have HG : Hd (GR w2 w.heap.size n (fun _ => .slice none 0 0)) := ⟨by
        have := own_upd H1.out HU.out (fun k hk hS => by have := HSlt.out k hS; simp [Value.ownBlock] at hk; omega)
        rw [GR]
        have e : (madeCells (Value.slice none 0 0).cells (n * 1)).toList = (List.range n).map (fun _ => Value.slice none 0 0) := by
          apply List.ext_getElem
          · simp [madeCells]
          · intro i h1 h2
            simp [madeCells, Value.cells, Nat.mod_one]
        rwa [e] at this⟩
      have HLc : Hd (∀ j, j < n → w2.cell? ⟨L, j, none⟩ = some (vs j)) := ⟨fun j hj => HU.out.cell (HU1.out.cell (HL.out j hj) (fun ⟨j, hj, hk⟩ => HLNE.out j hj hk)) (fun ⟨j, hj, hk⟩ => HLNE.out j hj hk)⟩
      have HU2 := Hd.mk (show Upd (FamS n vs) w w2 from HU1.out.trans HU.out (fun _ _ h => h))
      clear HF HU HV hi
      go_wp2
      go_loopg [41] n (fun k y w' => ∃ (i : Nat) (gl : Nat → Value), y = .int .i64 i ∧ i + k = n ∧ Hd (Fam w' base n vs (fun j => mk j (xs j).length)) ∧ Hd (GR w' w.heap.size n gl) ∧ Hd (∀ j, j < i → OB w' base (gl j) (mk j (xs j).length ++ gr j 24) ∧ ((gl j).ownBlock = (vs j).ownBlock ∨ ∃ k, w2.heap.size ≤ k ∧ (gl j).ownBlock = some k)) ∧ Hd (Upd (fun k => FamS n vs k ∨ k = w.heap.size) w2 w'))
      case atStart => exact ⟨0, _, rfl, by omega, HF2, HG, ⟨fun j hj => absurd hj (by omega)⟩, ⟨Upd.refl _ _⟩⟩
      case round =>
        obtain ⟨i, gl, rfl, hi, HF, HR, HA, HU⟩ := hrel
        rcases Nat.eq_zero_or_pos gk with rfl | hp
        · obtain rfl : n = i := by omega
          obtain ⟨w4, rfl⟩ : ∃ w4 : World, w4 = wr := ⟨_, rfl⟩
          have HLd : Hd (∀ j, j < n → w4.cell? ⟨L, j, none⟩ = some (vs j)) := ⟨fun j hj => HU.out.cell (HLc.out j hj) (fun h => h.elim (fun ⟨j, hj, hk⟩ => HLNE.out j hj hk) (fun e => by simp at e; omega))⟩
          have HUE := Hd.mk (show Upd (FamS n vs) w w4 from HU2.out.trans HU.out (fun j hj h => h.elim id (fun e => by omega)))
          clear HU hi
          go_wp2
          go_loopg [72] n (fun k y w' => w' = w4 ∧ ∃ i : Nat, y = .int .i64 i ∧ i + k = n)
          case atStart => exact ⟨rfl, 0, rfl, by omega⟩
          case round =>
            obtain ⟨rfl, i, rfl, hi⟩ := hrel
            rcases Nat.eq_zero_or_pos gk with rfl | hp
            · obtain rfl : n = i := by omega
              go_wp2
              go_ret
              exact ⟨rfl, HUE.out⟩
            · obtain ⟨k, rfl⟩ : ∃ k, gk = k + 1 := ⟨gk - 1, by omega⟩
              have hin : i < n := by omega
              obtain ⟨wo, ewo⟩ : ∃ wo : World, wo = wr := ⟨_, rfl⟩
              have hcell := HLd.out i hin
              have gcell := HR.out.cell i hin
              have hml := HN.out i hin
              obtain ⟨m, em⟩ : ∃ m, (xs i).length = m := ⟨_, rfl⟩
              obtain ⟨A, d, ev, hmd, hC⟩ := own_C (HF.out i hin)
              obtain ⟨A2, d2, ev2, hmd2, hC2⟩ := own_C (HA.out i hin).1
              dsimp only at ev hmd hC
              rw [em] at hml
              rw [mk_len, em] at ev hmd hC
              rw [em, List.length_append, mk_len, gr_len] at ev2 hmd2 hC2
              rw [ev] at hcell
              rw [ev2] at gcell
              have HC := Hd.mk hC
              have HC2 := Hd.mk hC2
              clear em ev hC ev2 hC2
              subst ewo
              go_wp2
              go_loopg [79] m (fun q y w'' => w'' = wo ∧ ∃ p : Nat, y = .int .i64 p ∧ p + q = m)
              case atStart => exact ⟨rfl, 0, rfl, by omega⟩
              case round =>
                obtain ⟨rfl, p, rfl, hpq⟩ := hrel
                rcases Nat.eq_zero_or_pos gk with rfl | hp2
                · obtain rfl : m = p := by omega
                  clear hcell hpq
                  go_wp2
                  go_loopg [13] 24 (fun q y w'' => w'' = wr ∧ ∃ p : Nat, y = .int .i64 p ∧ p + q = 24)
                  case atStart => exact ⟨rfl, 0, rfl, by omega⟩
                  case round =>
                    obtain ⟨rfl, p, rfl, hpq⟩ := hrel
                    rcases Nat.eq_zero_or_pos gk with rfl | hp3
                    · obtain rfl : p = 24 := by omega
                      clear gcell
                      go_wp2
                      go_roundg k
                      case measure => omega
                      case rel => exact ⟨rfl, i + 1, by go_num, by omega⟩
                    · obtain ⟨q, rfl⟩ : ∃ k, gk = k + 1 := ⟨gk - 1, by omega⟩
                      have hp24 : p < 24 := by omega
                      obtain ⟨ad, hA, hc⟩ := at_byte HC2.out (m + p) (by omega)
                      rw [gb_gr i m p hp24] at hc
                      subst hA
                      go_wp2
                      go_roundg q
                      case measure => omega
                      case rel => exact ⟨rfl, p + 1, by go_num, by omega⟩
                · obtain ⟨q, rfl⟩ : ∃ k, gk = k + 1 := ⟨gk - 1, by omega⟩
                  have hpm : p < m := by omega
                  obtain ⟨ad, hA, hc⟩ := at_byte HC.out p hpm
                  rw [gb_mk i m p hpm] at hc
                  subst hA
                  clear hcell gcell
                  go_wp2
                  go_roundg q
                  case measure => omega
                  case rel => exact ⟨rfl, p + 1, by go_num, by omega⟩
        · obtain ⟨k, rfl⟩ : ∃ k, gk = k + 1 := ⟨gk - 1, by omega⟩
          have hin : i < n := by omega
          obtain ⟨wo, rfl⟩ : ∃ wo : World, wo = wr := ⟨_, rfl⟩
          have hcell : wo.cell? ⟨L, i, none⟩ = some (vs i) := HU.out.cell (HLc.out i hin) (fun h => h.elim (fun ⟨j, hj, hk⟩ => HLNE.out j hj hk) (fun e => by simp at e; omega))
          have hF := HF.out i hin
          dsimp only at hF
          have hml := HN.out i hin
          obtain ⟨m, em⟩ : ∃ m, (xs i).length = m := ⟨_, rfl⟩
          obtain ⟨A, d, ev, hmd, hC⟩ := own_C hF
          rw [mk_len, em] at ev hmd
          have HFi := Hd.mk hF
          have EM := Hd.mk em
          have EV := Hd.mk ev
          have hws3 := HU.out.size
          rw [ev] at hcell
          have gcell := HR.out.cell i hin
          have gfroz := World.ownsRow.frozenAt HR.out i
          obtain ⟨gv, egv⟩ : ∃ gv, gl i = gv := ⟨_, rfl⟩
          rw [egv] at gcell
          have HR1 := Hd.mk (HR.out.store i hin (vs i))
          rw [ev] at HR1
          rw [em] at hml
          clear hF em ev hC egv
          go_wp2
          go_loopg [9] 24 (fun q y w'' => ∃ (p : Nat) (cur : Value), y = .int .i64 p ∧ p + q = 24 ∧ Hd (GR w'' w.heap.size n (up gl i cur)) ∧ Hd (OB w'' base cur (mk i m ++ gr i p)) ∧ Hd (OB w'' base (vs i) (mk i m)) ∧ Hd (cur = .slice A (m + p) d ∨ ∃ k, wo.heap.size ≤ k ∧ cur.ownBlock = some k) ∧ Hd (Upd (fun k => (vs i).ownBlock = some k ∨ k = w.heap.size) wo w''))
          case atStart =>
            have hO : OB (wo.setCell ⟨w.heap.size, i, none⟩ (.slice A m d)) base (vs i) (mk i m) := by
              have := HFi.out
              rw [EM.out] at this
              refine own_setCell this (fun e => ?_) _
              have := HSlt.out _ ⟨i, hin, e.symm⟩
              simp at this
            refine ⟨0, .slice A m d, rfl, by omega, HR1, ⟨?_⟩, ⟨hO⟩, ⟨.inl rfl⟩, ⟨(Upd.refl _ _).setCell _ (.inl (.inr rfl)) _⟩⟩
            rw [EV.out] at hO
            have e : gr i 0 = [] := rfl
            rw [e, List.append_nil]
            exact hO
          case round =>
            obtain ⟨p, cur, rfl, hpq, HR2, HO, HOi, HP, HU3⟩ := hrel
            have hws4 := HU3.out.size
            rcases Nat.eq_zero_or_pos gk with rfl | hp2
            · obtain rfl : p = 24 := by omega
              go_wp2
              go_roundg k
              case measure => omega
              case rel =>
                refine ⟨i + 1, up gl i cur, by go_num, by omega, ⟨?_⟩, HR2, ⟨?_⟩, ⟨HU.out.trans HU3.out (fun j hj h => h.elim (fun h => .inl ⟨i, hin, h⟩) .inr)⟩⟩
                · intro j hj
                  by_cases e : j = i
                  · subst e
                    have := HOi.out
                    rwa [← EM.out] at this
                  · refine own_upd (HF.out j hj) HU3.out (fun k hk h => h.elim (fun h => HNE.out i j hin hj e k hk h) (fun h => ?_))
                    have := HSlt.out k ⟨j, hj, hk⟩
                    omega
                · intro j hj
                  by_cases e : j = i
                  · subst e
                    rw [up_same]
                    refine ⟨by rw [EM.out]; exact HO.out, ?_⟩
                    rcases HP.out with h | ⟨k, hk, h⟩
                    · left
                      rw [h, EV.out]
                      rcases A with _ | a <;> rfl
                    · exact .inr ⟨k, by omega, h⟩
                  · have e' : up gl i cur j = gl j := by simp [up, e]
                    rw [e']
                    obtain ⟨h1, h2⟩ := HA.out j (by omega)
                    refine ⟨own_upd h1 HU3.out (fun k hk h => ?_), h2⟩
                    have hjn : j < n := by omega
                    rcases h2 with h2 | ⟨q, hq, h2⟩
                    · rw [h2] at hk
                      have hk2 := HSlt.out k ⟨j, hjn, hk⟩
                      rcases h with h | h
                      · exact HNE.out i j hin hjn e k hk h
                      · omega
                    · rw [hk] at h2
                      cases h2
                      rcases h with h | h
                      · have := HSlt.out k ⟨i, hin, h⟩
                        omega
                      · omega
            · obtain ⟨q, rfl⟩ : ∃ k, gk = k + 1 := ⟨gk - 1, by omega⟩
              have hp24 : p < 24 := by omega
              have gcell := HR2.out.cell i hin
              have gfroz := World.ownsRow.frozenAt HR2.out i
              rw [up_same] at gcell
              obtain ⟨A2, d2, ev2, hmd2, hC2⟩ := own_C HO.out
              have hl2 : (mk i m ++ gr i p).length = m + p := by rw [List.length_append, mk_len, gr_len]
              rw [hl2] at ev2 hmd2
              have HO2 : Hd (wr.ownsRow base 5 1 cur (m + p) (nums .u8 (mk i m ++ gr i p))) := ⟨by have := HO.out; rwa [OB, hl2] at this⟩
              have EV2 := Hd.mk ev2
              rw [ev2] at gcell HO2
              clear hC2 ev2 hl2
              go_wp2_with (first
                | (at_builtin; go_must (refine wpList_app (v := .slice A2 (m + p) d2) (n := m + p) (xs := nums .u8 (mk i m ++ gr i p)) rfl _ _ _ rfl base eltB rfl rfl (HO2.out.alloc _) (Src.one _ _ _ rfl) (by omega) (by simp; omega) ?_); intro v1 w5 h1 h2 h3 _; obtain ⟨g1, c1, rfl, hg1, hg2⟩ := h1.out.form (by omega); have HR5 := Hd.mk ((HR2.out.alloc (.cells #[.int .u8 (((i : Int) + 131 + 3 * (p : Int)) % 256)] 5)).kept h2.out (own_type_ne HR2.out HO2.out (by decide))); have gc5 := (show GR w5 w.heap.size n (up gl i cur) from HR5.out).cell i hin; have gf5 := World.ownsRow.frozenAt HR5.out i; rw [up_same] at gc5))
              have hG1 : some w.heap.size ≠ (Value.slice (some ⟨g1, 0, none⟩) (m + p + 1) c1).ownBlock := by
                rcases own_type_ne HR5.out h1.out (by decide) with h | h
                · cases h
                · exact h
              have hGi : some w.heap.size ≠ (vs i).ownBlock := fun e => by
                have := HSlt.out _ ⟨i, hin, e.symm⟩
                omega
              have hO5 : OB w5 base (vs i) (mk i m) ∧ (Value.slice (some ⟨g1, 0, none⟩) (m + p + 1) c1 = .slice A (m + (p + 1)) d ∨ ∃ k, wo.heap.size ≤ k ∧ (Value.slice (some ⟨g1, 0, none⟩) (m + p + 1) c1).ownBlock = some k) ∧ (∀ k, (Value.slice A2 (m + p) d2).ownBlock = some k → ((vs i).ownBlock = some k ∨ k = w.heap.size) ∨ wo.heap.size ≤ k) := by
                have hOa : OB (wr.alloc (.cells #[.int .u8 (((i : Int) + 131 + 3 * (p : Int)) % 256)] 5)) base (vs i) (mk i m) := World.ownsRow.alloc HOi.out _
                have hcur := HP.out
                rw [EV2.out] at hcur
                refine ⟨?_, ?_, ?_⟩
                · rcases h3.out with ⟨A3, c3, e1, e2⟩ | ⟨e1, e2⟩
                  · rcases hcur with h | ⟨k, hk, h⟩
                    · cases h
                      cases e1
                      have h1' := h1.out
                      rw [e2] at h1'
                      have ht := own_take h1' (show m ≤ m + p + 1 by omega)
                      have e : (nums .u8 (mk i m ++ gr i p) ++ [Value.int .u8 (((i : Int) + 131 + 3 * (p : Int)) % 256)]).take (m * 1) = nums .u8 (mk i m) := by
                        rw [nums_append, List.append_assoc, Nat.mul_one]
                        exact List.take_left' (by rw [nums_length, mk_len])
                      rw [e] at ht
                      rw [OB, mk_len, EV.out]
                      exact ht
                    · refine World.ownsRow.kept hOa h2.out (.inr (fun e => ?_))
                      rw [h] at e
                      have := HSlt.out _ ⟨i, hin, e⟩
                      omega
                  · exact World.ownsRow.kept hOa e2 (by rcases hb : (vs i).ownBlock with _ | b <;> simp)
                · rcases h3.out with ⟨A3, c3, e1, e2⟩ | ⟨e1, e2⟩
                  · cases e1
                    rcases hcur with h | ⟨k, hk, h⟩
                    · cases h
                      left
                      rw [e2, Nat.add_assoc]
                    · right
                      refine ⟨k, hk, ?_⟩
                      rw [e2]
                      rcases A2 with _ | a
                      · cases h
                      · exact h
                  · right
                    exact ⟨_, by simp; omega, e1⟩
                · intro k hk
                  rcases hcur with h | ⟨k', hk', h⟩
                  · left; left
                    rw [h] at hk
                    rw [EV.out, ← hk]
                    rcases A with _ | a <;> rfl
                  · right
                    rw [hk] at h
                    cases h
                    exact hk'
              have HO5 := Hd.mk hO5
              clear hO5
              go_roundg q
              case measure => omega
              case rel =>
                refine ⟨p + 1, .slice (some ⟨g1, 0, none⟩) (m + p + 1) c1, by go_num, by omega, ⟨?_⟩, ⟨?_⟩, ⟨?_⟩, ⟨HO5.out.2.1⟩, ⟨?_⟩⟩
                · have := GR.store HR5.out i hin (.slice (some ⟨g1, 0, none⟩) (m + p + 1) c1)
                  rwa [up_up] at this
                · refine own_setCell (p := ⟨w.heap.size, i, none⟩) ?_ hG1 _
                  rw [gr_snoc, ← List.append_assoc]
                  have hlx : (mk i m ++ gr i p).length = m + p := by rw [List.length_append, mk_len, gr_len]
                  exact OB.snoc (xs := mk i m ++ gr i p) (n := m + p + 1) h1.out (by rw [hlx]; rfl)
                · exact own_setCell (p := ⟨w.heap.size, i, none⟩) HO5.out.1 hGi _
                · exact (Upd.of_app (HU3.out.alloc _) h2.out HO5.out.2.2).setCell _ (.inl (.inr rfl)) _
    · obtain ⟨k, rfl⟩ : ∃ k, gk = k + 1 := ⟨gk - 1, by omega⟩
      have hin : i < n := by omega
      have hcell : wr.cell? ⟨L, i, none⟩ = some (vs i) := HU.out.cell (HU1.out.cell (HL.out i hin) (fun ⟨j, hj, hk⟩ => HLNE.out j hj hk)) (fun ⟨j, hj, hk⟩ => HLNE.out j hj hk)
      have hF := HF.out i hin
      dsimp only at hF
      rw [if_neg (Nat.lt_irrefl i)] at hF
      have hml := HN.out i hin
      obtain ⟨m, em⟩ : ∃ m, (xs i).length = m := ⟨_, rfl⟩
      obtain ⟨A, d, ev, hmd, hC⟩ := own_C hF
      rw [em] at ev hml hmd
      have HFi := Hd.mk hF
      have EM := Hd.mk em
      have EV := Hd.mk ev
      rw [ev] at hcell
      clear hF em ev hC
      obtain ⟨wo, rfl⟩ : ∃ wo : World, wo = wr := ⟨_, rfl⟩
      go_wp2
      go_loopg [26] m (fun q y w'' => ∃ p : Nat, y = .int .i64 p ∧ p + q = m ∧ Hd (OB w'' base (vs i) (mk i p ++ (xs i).drop p)) ∧ Hd (Upd (fun k => (vs i).ownBlock = some k) wo w''))
      case atStart => exact ⟨0, rfl, by omega, ⟨HFi.out⟩, ⟨Upd.refl _ _⟩⟩
      case round =>
        obtain ⟨p, rfl, hpq, HO, HU2⟩ := hrel
        rcases Nat.eq_zero_or_pos gk with rfl | hp2
        · obtain rfl : m = p := by omega
          clear hcell hpq
          go_wp2
          go_roundg k
          case measure => omega
          case rel =>
            refine ⟨i + 1, by go_num, by omega, ⟨Fam.one (i := i) HF.out HU2.out (fun j hj hji => HNE.out i j hin hj hji) ?_ (fun j hj hji => ?_)⟩, ⟨HU.out.trans HU2.out (fun j _ hj => ⟨i, hin, hj⟩)⟩⟩
            · have := HO.out
              rw [← EM.out, List.drop_length, List.append_nil] at this
              simpa using this
            · by_cases h : j < i
              · rw [if_pos h, if_pos (by omega)]
              · rw [if_neg h, if_neg (by omega)]
        · obtain ⟨q, rfl⟩ : ∃ k, gk = k + 1 := ⟨gk - 1, by omega⟩
          have hpm : p < m := by omega
          have hlm : (mk i p ++ (xs i).drop p).length = m := by rw [List.length_append, mk_len, List.length_drop, EM.out]; omega
          have hO := HO.out
          rw [OB, hlm] at hO
          obtain ⟨g, cap, ef, hg1, hg2⟩ := hO.form (by omega)
          rw [EV.out] at ef
          cases ef
          rw [EV.out] at hO
          obtain ⟨c1, f1⟩ := own_at hO (p : Int) (by omega) (by omega)
          rw [Int.toNat_natCast] at c1 f1
          have hst := (own_store hO (p : Int) (((i : Int) + 7 * (p : Int)) % 256)).1
          rw [Int.toNat_natCast, mk_set i p _ (by rw [EM.out]; exact hpm)] at hst
          have HST := Hd.mk hst
          have HSU := Hd.mk (show Upd (fun k => (vs i).ownBlock = some k) wo (wr.setCell ⟨g, p, none⟩ (.int .u8 (((i : Int) + 7 * (p : Int)) % 256))) from HU2.out.setCell _ (.inl (by rw [EV.out]; rfl)) _)
          clear hO hst
          go_wp2
          go_roundg q
          case measure => omega
          case rel => exact ⟨p + 1, by go_num, by omega, ⟨by rw [OB, mk_mid i _ _ (by rw [EM.out]; omega), EM.out, EV.out]; exact HST.out⟩, HSU⟩

def sel3 {α : Type} (a b c : α) : Nat → α
  | 0 => a
  | 1 => b
  | _ => c
def sel2 {α : Type} (a b : α) : Nat → α
  | 0 => a
  | _ => b
theorem cells3 (v0 v1 v2 : Value) (W : World) (t : TypeId) (j : Nat) (h : j < 3) : (W.alloc (.cells #[v0, v1, v2] t)).cell? ⟨W.heap.size, j, none⟩ = some (sel3 v0 v1 v2 j) := by
  rw [blk_cell (blk_new W _)]
  match j, h with
  | 0, _ => rfl
  | 1, _ => rfl
  | 2, _ => rfl
theorem cells2 (v0 v1 : Value) (W : World) (t : TypeId) (j : Nat) (h : j < 2) : (W.alloc (.cells #[v0, v1] t)).cell? ⟨W.heap.size, j, none⟩ = some (sel2 v0 v1 j) := by
  rw [blk_cell (blk_new W _)]
  match j, h with
  | 0, _ => rfl
  | 1, _ => rfl
/-- No block of both. -/
def Dj (u v : Value) : Prop := ∀ k, u.ownBlock = some k → v.ownBlock ≠ some k
theorem Dj.symm {u v : Value} (h : Dj u v) : Dj v u := fun k hk hk' => h k hk' hk
theorem Dj.of {w w' : World} {b b' : Nat} {e e' : TypeId} {s s' n n' : Nat} {u v : Value} {xs ys : List Value} (h : w.ownsRow b e s u n xs) (h' : w'.ownsRow b' e' s' v n' ys) (hb : w.heap.size ≤ b') : Dj u v := fun k hk hk' => by
  have := own_lt h k hk
  have := own_base h' k hk'
  omega

theorem own3_calls (v0 v1 v2 : Value) (x0 x1 x2 : List Int) (b0 b1 b2 : Nat) (W : World) (h0 : OB W b0 v0 x0) (h1 : OB W b1 v1 x1) (h2 : OB W b2 v2 x2)
    (l0 : x0.length ≤ 200000000000000) (l1 : x1.length ≤ 200000000000000) (l2 : x2.length ≤ 200000000000000) (d01 : Dj v0 v1) (d02 : Dj v0 v2) (d12 : Dj v1 v2) :
    Calls Try.prog 27 #[.slice (some ⟨W.heap.size, 0, none⟩) 3 3] (W.alloc (.cells #[v0, v1, v2] 24)) fun e w' => e = .returned (.bool true) ∧ Upd (fun k => v0.ownBlock = some k ∨ v1.ownBlock = some k ∨ v2.ownBlock = some k) W w' := by
  have a0 : OB (W.alloc (.cells #[v0, v1, v2] 24)) 0 v0 x0 := World.ownsRow.alloc (own_weaken h0 (Nat.zero_le _)) _
  have a1 : OB (W.alloc (.cells #[v0, v1, v2] 24)) 0 v1 x1 := World.ownsRow.alloc (own_weaken h1 (Nat.zero_le _)) _
  have a2 : OB (W.alloc (.cells #[v0, v1, v2] 24)) 0 v2 x2 := World.ownsRow.alloc (own_weaken h2 (Nat.zero_le _)) _
  refine (own_calls 3 (sel3 v0 v1 v2) (sel3 x0 x1 x2) W.heap.size 3 0 _ (by omega) (cells3 v0 v1 v2 W _) (by simp) (Nat.zero_le _) ?_ ?_ ?_ ?_).mono ?_
  · intro j hj
    match j, hj with
    | 0, _ => exact a0
    | 1, _ => exact a1
    | 2, _ => exact a2
  · intro j hj
    match j, hj with
    | 0, _ => exact l0
    | 1, _ => exact l1
    | 2, _ => exact l2
  · intro i j hi hj hne
    match i, hi, j, hj with
    | 0, _, 0, _ => exact absurd rfl hne
    | 1, _, 1, _ => exact absurd rfl hne
    | 2, _, 2, _ => exact absurd rfl hne
    | 0, _, 1, _ => exact d01.symm
    | 0, _, 2, _ => exact d02.symm
    | 1, _, 0, _ => exact d01
    | 1, _, 2, _ => exact d12.symm
    | 2, _, 0, _ => exact d02
    | 2, _, 1, _ => exact d12
  · intro j hj e
    match j, hj with
    | 0, _ => exact absurd (own_lt h0 _ e) (Nat.lt_irrefl _)
    | 1, _ => exact absurd (own_lt h1 _ e) (Nat.lt_irrefl _)
    | 2, _ => exact absurd (own_lt h2 _ e) (Nat.lt_irrefl _)
  · rintro e w' ⟨rfl, hu⟩
    refine ⟨rfl, ((Upd.refl (fun _ => False) W).alloc (.cells #[v0, v1, v2] 24)).mono (fun _ h => h.elim) |>.trans hu ?_⟩
    rintro k _ ⟨j, hj, hk⟩
    match j, hj, hk with
    | 0, _, hk => exact .inl hk
    | 1, _, hk => exact .inr (.inl hk)
    | 2, _, hk => exact .inr (.inr hk)
theorem own2_calls (v0 v1 : Value) (x0 x1 : List Int) (b0 b1 : Nat) (W : World) (h0 : OB W b0 v0 x0) (h1 : OB W b1 v1 x1)
    (l0 : x0.length ≤ 200000000000000) (l1 : x1.length ≤ 200000000000000) (d01 : Dj v0 v1) :
    Calls Try.prog 27 #[.slice (some ⟨W.heap.size, 0, none⟩) 2 2] (W.alloc (.cells #[v0, v1] 24)) fun e w' => e = .returned (.bool true) ∧ Upd (fun k => v0.ownBlock = some k ∨ v1.ownBlock = some k) W w' := by
  have a0 : OB (W.alloc (.cells #[v0, v1] 24)) 0 v0 x0 := World.ownsRow.alloc (own_weaken h0 (Nat.zero_le _)) _
  have a1 : OB (W.alloc (.cells #[v0, v1] 24)) 0 v1 x1 := World.ownsRow.alloc (own_weaken h1 (Nat.zero_le _)) _
  refine (own_calls 2 (sel2 v0 v1) (sel2 x0 x1) W.heap.size 2 0 _ (by omega) (cells2 v0 v1 W _) (by simp) (Nat.zero_le _) ?_ ?_ ?_ ?_).mono ?_
  · intro j hj
    match j, hj with
    | 0, _ => exact a0
    | 1, _ => exact a1
  · intro j hj
    match j, hj with
    | 0, _ => exact l0
    | 1, _ => exact l1
  · intro i j hi hj hne
    match i, hi, j, hj with
    | 0, _, 0, _ => exact absurd rfl hne
    | 1, _, 1, _ => exact absurd rfl hne
    | 0, _, 1, _ => exact d01.symm
    | 1, _, 0, _ => exact d01
  · intro j hj e
    match j, hj with
    | 0, _ => exact absurd (own_lt h0 _ e) (Nat.lt_irrefl _)
    | 1, _ => exact absurd (own_lt h1 _ e) (Nat.lt_irrefl _)
  · rintro e w' ⟨rfl, hu⟩
    refine ⟨rfl, ((Upd.refl (fun _ => False) W).alloc (.cells #[v0, v1] 24)).mono (fun _ h => h.elim) |>.trans hu ?_⟩
    rintro k _ ⟨j, hj, hk⟩
    match j, hj, hk with
    | 0, _, hk => exact .inl hk
    | 1, _, hk => exact .inr hk
end Go.Proofs.Ytinlfoblpgpikaa
