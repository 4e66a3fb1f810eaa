/- num: the document's All. -/
import Derived.Test.YtpjfepeedfbpfaaIt
namespace Go.Proofs.Ytpjfepeedfbpfaa
open Go.RowKit Go.Proofs.YtpjfepeedfbpfaaW.PrintWords Go.Proofs.YtpjfepeedfbpfaaW.PrintLast Go.Proofs.YtpjfepeedfbpfaaW.PrintMore
set_option linter.unusedVariables false
set_option linter.unusedSimpArgs false
theorem eltAt : Elt Try.prog 58 61 (.agg #[.int .i64 0, .int .u64 0]) 2 16 := ⟨Try.underlying58, by kernel_rfl, rfl, by decide, by decide⟩
def atCells (L : List (Nat × Int)) : List Value := L.flatMap fun x => [.int .i64 (x.1 : Int), .int .u64 x.2]
theorem atCells_snoc (L : List (Nat × Int)) (a : Nat) (v : Int) : atCells (L ++ [(a, v)]) = atCells L ++ [.int .i64 (a : Int), .int .u64 v] := by simp [atCells]
theorem Src.two (w : World) (u v : Value) (t : TypeId) (hu : u.oneCell' = true) (hv : v.oneCell' = true) : Src (w.alloc (.cells #[u, v] t)) (some ⟨w.heap.size, 0, none⟩) 1 2 [u, v] := by
  refine ⟨rfl, fun j x hj => ?_, fun x hx => by simp at hx; rcases hx with rfl | rfl <;> assumption⟩
  refine ⟨_, rfl, ?_⟩
  rw [add_plain, blk_cell (blk_new w _)]
  simpa using hj
set_option maxHeartbeats 1000000 in
theorem rall_calls (A : Option Addr) (n c : Nat) (xs : List Int) (w : World) (hB : Bs w A n c xs) (hn : n ≤ 1048576) :
    Calls Try.prog 28 #[.slice A n c] w fun e w' => ∃ v, e = .returned v ∧ w'.ownsRow w.heap.size 61 2 v (allN xs).length (atCells (allN xs)) ∧ Below w.heap.size w w' := by
  obtain ⟨L, hL⟩ : ∃ L, allN xs = L := ⟨_, rfl⟩
  have HS : Hd (L = al xs (xs.length + 1) 0) := ⟨hL.symm⟩
  rw [hL]
  have HB := Hd.mk hB
  have HXL := Hd.mk hB.len
  clear hB hL
  go_enter Try.func28, Try.ntmps28
  go_wp2
  go_loopg [3, 4] (n + 1) (fun k u y w'' => ∃ (at_ : Nat) (M : List (Nat × Int)), y = .int .i64 at_ ∧ at_ ≤ n ∧ n + 1 ≤ k + at_ ∧ M.length ≤ at_ ∧ Hd (L = M ++ al xs k at_) ∧ Hd (w''.ownsRow w.heap.size 61 2 u M.length (atCells M)) ∧ Hd (Below w.heap.size w w''))
  case atStart => exact ⟨0, [], rfl, by omega, by omega, by simp, ⟨by rw [HS.out, HXL.out]; rfl⟩, ⟨own_nil _ _ _ _⟩, ⟨Below.refl _ _⟩⟩
  case round =>
    obtain ⟨at_, M, rfl, hat, hk, hM, HL, HO, HW⟩ := hrel
    have hBs := Hd.mk ((HB.out.below HW.out).suf (m := at_) hat)
    obtain ⟨⟨v, q, e⟩, hr⟩ : ∃ r, rdN (xs.drop at_) = r := ⟨_, rfl⟩
    have hws := HW.out.size
    have hcc := HB.out.hc
    by_cases he : e = 0
    · subst he
      have hok := rdN_ok (xs.drop at_) (by rw [hr])
      rw [hr] at hok
      obtain ⟨m, hqm, hm0, hml⟩ := hok
      simp only at hqm
      subst hqm
      rw [List.length_drop, HXL.out] at hml
      obtain ⟨k, rfl⟩ : ∃ k', gk = k' + 1 := ⟨gk - 1, by omega⟩
      have hst := al_step xs k at_ m v hr
      have HL1 : Hd (L = (M ++ [(at_, v)]) ++ al xs k (at_ + m)) := ⟨by rw [HL.out, hst]; simp⟩
      have HRD := Hd.mk hr
      have hlt : at_ < n := by omega
      clear hst hr HL
      go_wp2_with fail
      go_at_call 31
      refine (read_calls _ _ _ (xs.drop at_) _ hBs.out.C hBs.out.hc hBs.out.hr).mono ?_
      rw [HRD.out]
      dsimp only [ret3]
      rintro e' w1 ⟨rfl, rfl⟩
      go_wp2_with (first
        | (at_builtin; refine wpList_app (v := u3) (n := M.length) (xs := atCells M) (m := 1) (news := [.int .i64 at_, .int .u64 v]) rfl _ _ _ rfl w.heap.size eltAt rfl rfl (HO.out.alloc _) (Src.two _ _ _ _ rfl rfl) (by omega) (by simp; omega) ?_; intro v3 w3 f1 f2 f3 _))
      go_roundg k
      case measure => omega
      case rel =>
        refine ⟨at_ + m, M ++ [(at_, v)], by go_num, by omega, by omega, by simp; omega, HL1, ⟨?_⟩, ⟨?_⟩⟩
        · rw [atCells_snoc, List.length_append]
          exact f1.out
        · exact (HW.out.alloc hws _).grown f2.out (by simp; omega) (fun k hk => own_base HO.out k hk)
    · have hen : (e != 0) = true := by simpa using he
      have hstop := al_stop xs gk at_ (by rw [hr]; exact he)
      have HLM : Hd (L = M) := ⟨by rw [HL.out, hstop, List.append_nil]⟩
      have HRD := Hd.mk hr
      clear hstop hr he HL
      rcases Nat.lt_or_ge at_ n with hlt | hge
      · go_wp2_with fail
        go_at_call 31
        refine (read_calls _ _ _ (xs.drop at_) _ hBs.out.C hBs.out.hc hBs.out.hr).mono ?_
        rw [HRD.out]
        dsimp only [ret3]
        rintro e' w1 ⟨rfl, rfl⟩
        go_wp2
        go_ret
        refine ⟨_, rfl, ?_, HW.out⟩
        rw [HLM.out]
        exact HO.out
      · obtain rfl : at_ = n := by omega
        have hd : xs.drop at_ = [] := List.drop_eq_nil_of_le (by rw [HXL.out]; omega)
        have HR0 := HRD.out
        rw [hd] at HR0
        have HRN := Hd.mk HR0
        clear HR0 hd
        go_wp2_with fail
        all_goals
          go_at_call 31
          refine (read_calls _ _ _ [] _ (Kd.C_of_reads (enc := Value.int .u8) (d := (0 : Int)) (h1 := fun _ => rfl) ⟨rfl, by simp, fun h => absurd h (by simp)⟩) (Nat.zero_le _) (by simp)).mono ?_
          rw [HRN.out]
          dsimp only [ret3]
          rintro e' w1 ⟨rfl, rfl⟩
          go_wp2
          go_ret
          refine ⟨_, rfl, ?_, HW.out⟩
          rw [HLM.out]
          exact HO.out
end Go.Proofs.Ytpjfepeedfbpfaa
