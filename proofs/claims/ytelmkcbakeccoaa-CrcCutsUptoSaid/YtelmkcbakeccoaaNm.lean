/- crc: the walk of CrcNames. -/
import Derived.Test.YtelmkcbakeccoaaSm
namespace Go.Proofs.Ytelmkcbakeccoaa
open Go.RowKit Go.Proofs.YtelmkcbakeccoaaW.PrintWords Go.Proofs.YtelmkcbakeccoaaW.PrintLast Go.Proofs.YtelmkcbakeccoaaW.PrintMore
set_option linter.unusedVariables false
set_option linter.unusedSimpArgs false
theorem wpList_on {P : Program} {w : World} {ops : Array Oper} {rest : List Oper} {o : Oper} {a : Act} {Q : Exit → Act → World → Prop} (hw : Region.wanted o (yielded ops a.tmps) = true)
    (h : wpList P ops Q ({ o with guard := none } :: rest) a w) : wpList P ops Q (o :: rest) a w := by
  unfold wpList at h ⊢
  rw [if_pos hw]
  rw [if_pos (by rfl)] at h
  exact h
theorem sum_one {w : World} {A : Option Addr} {m d : Nat} {l : List Int} (hb : Bs w A m d l) (v : Int) (hv : W (sumOf [l]) = v) :
    Calls Try.prog 22 #[.slice (some ⟨w.heap.size, 0, none⟩) 1 1] (w.alloc (.cells #[.slice A m d] 23)) fun e w' => e = .returned (.int .u32 v) ∧ Below w.heap.size w w' :=
  (sum_calls _ 1 1 [l] _ (Ps.one 23 hb) (Nat.le_refl _)).mono fun e w' ⟨h1, h2⟩ => ⟨by rw [h1, hv], below_step ((Below.refl _ _).alloc (Nat.le_refl _) _) h2⟩
theorem sum_1 : W (sumOf [List.replicate 1 0]) = 3523407757 := by decide +kernel
theorem sum_4 : W (sumOf [List.replicate 4 0]) = 558161692 := by decide +kernel
theorem sum_f : W (sumOf [[255, 255, 255, 255]]) = 4294967295 := by decide +kernel
theorem sum_a : W (sumOf [[97]]) = 3904355907 := by decide +kernel
set_option maxHeartbeats 2000000 in
theorem walk_crcNames (w : World) : Calls Try.prog 4 #[] w fun e w' => e = .returned (.bool true) ∧ Below w.heap.size w w' := by
  have HF : Hd (Bs (w.alloc (.cells #[.int .u8 255, .int .u8 255, .int .u8 255, .int .u8 255] 5)) (some ⟨w.heap.size, 0, none⟩) 4 4 [255, 255, 255, 255]) := ⟨bs_lit w [255, 255, 255, 255] 4 5 rfl (by decide) (by omega)⟩
  have HW := Hd.mk ((Below.refl w.heap.size w).alloc (Nat.le_refl _) (.cells #[.int .u8 255, .int .u8 255, .int .u8 255, .int .u8 255] 5))
  have S1 := Hd.mk sum_1
  have S4 := Hd.mk sum_4
  have SF := Hd.mk sum_f
  have SA := Hd.mk sum_a
  obtain ⟨l1, e1⟩ : ∃ l, l = List.replicate 1 (0 : Int) := ⟨_, rfl⟩
  obtain ⟨l4, e4⟩ : ∃ l, l = List.replicate 4 (0 : Int) := ⟨_, rfl⟩
  obtain ⟨lf, ef⟩ : ∃ l, l = [(255 : Int), 255, 255, 255] := ⟨_, rfl⟩
  obtain ⟨la, ea⟩ : ∃ l, l = [(97 : Int)] := ⟨_, rfl⟩
  rw [← e1] at S1
  rw [← e4] at S4
  rw [← ef] at SF HF
  rw [← ea] at SA
  have E1 := Hd.mk e1
  have E4 := Hd.mk e4
  have EA := Hd.mk ea
  clear e1 e4 ef ea
  go_enter Try.func4, Try.ntmps4
  go_wp2_with (first
    | (go_at_call 20; go_must (refine (num_calls _ _).mono ?_); rintro e w' ⟨rfl, rfl⟩))
  go_at_call 21
  refine (awake_calls _).mono ?_
  rintro e w1 ⟨rfl, h1⟩
  have H1 := Hd.mk (below_step HW.out h1)
  have HF1 := Hd.mk (HF.out.below h1)
  clear h1 HF HW
  go_wp2_with (first
    | (at_make; go_must (refine wpList_on (by rfl) (wpList_makeB rfl _ _ rfl 1 rfl rfl (by omega) ?_)); rw [← E1.out]; intro w2 h2 h3 h4))
  go_at_call 22
  refine (sum_one h3.out _ S1.out).mono ?_
  rintro e w3 ⟨rfl, h5⟩
  have H2 := Hd.mk (below_step H1.out (below_step h4.out h5))
  have HF2 := Hd.mk (HF1.out.below (below_step h4.out h5))
  clear h2 h3 h4 h5 HF1 H1
  go_wp2_with (first
    | (at_make; go_must (refine wpList_on (by rfl) (wpList_makeB rfl _ _ rfl 4 rfl rfl (by omega) ?_)); rw [← E4.out]; intro w4 h2 h3 h4))
  go_at_call 22
  refine (sum_one h3.out _ S4.out).mono ?_
  rintro e w5 ⟨rfl, h5⟩
  have H3 := Hd.mk (below_step H2.out (below_step h4.out h5))
  have HF3 := Hd.mk (HF2.out.below (below_step h4.out h5))
  clear h2 h3 h4 h5 HF2 H2
  go_wp2_with fail
  go_at_call 22
  refine (sum_one HF3.out _ SF.out).mono ?_
  rintro e w6 ⟨rfl, h5⟩
  have H4 := Hd.mk (below_step H3.out h5)
  clear h5 HF3 H3
  have hcv := conv_lit w6 #[.int .u8 97] 1 1
  have HA : Hd (Bs (w6.alloc (.cells #[.int .u8 97] 5 (1, 2))) (some ⟨w6.heap.size, 0, none⟩) 1 1 la) := ⟨by rw [EA.out]; exact bs_lit_fr w6 [97] 1 5 (1, 2) rfl (by decide) (by omega)⟩
  have hS := sum_one HA.out _ SA.out
  have HB := Hd.mk ((Below.refl w6.heap.size w6).alloc (Nat.le_refl _) (.cells #[.int .u8 97] 5 (1, 2)))
  obtain ⟨wf, ewf⟩ : ∃ wf, w6.alloc (.cells #[.int .u8 97] 5 (1, 2)) = wf := ⟨_, rfl⟩
  have hsz : wf.heap.size = w6.heap.size + 1 := by rw [← ewf]; simp
  change _ = Result.ok _ (w6.alloc (.cells #[.int .u8 97] 5 (1, 2))) at hcv
  rw [ewf] at hS hcv HB
  rw [hsz] at hS
  have HS := Hd.mk hS
  clear hS ewf HA
  go_wp2_with fail
  go_at_call 22
  refine HS.out.mono ?_
  rintro e w7 ⟨rfl, h5⟩
  rw [← hsz] at h5
  have H5 := Hd.mk (below_step H4.out (below_step HB.out h5))
  clear h5 hsz hcv
  go_wp2
  go_ret
  exact ⟨rfl, H5.out⟩
end Go.Proofs.Ytelmkcbakeccoaa
