/- cutter: the walk of CutterJoins. -/
import Derived.Test.YtinlfoblpgpikaaGw
namespace Go.Proofs.Ytinlfoblpgpikaa
open Go.RowKit Go.ChangeShapes Go.WideShapes Go.Shelf Go.Proofs.YtinlfoblpgpikaaW.PrintWords Go.Proofs.YtinlfoblpgpikaaW.PrintLast Go.Proofs.YtinlfoblpgpikaaW.PrintMore Go.Proofs.Ytinlfoblpgpikaa.Pr
set_option linter.unusedVariables false
set_option linter.unusedSimpArgs false
attribute [-go_sem] Builtin.append_
theorem R_upd {α : Type} {d : Kd α} {e base : Nat} {ok S : Nat → Prop} {W W' : World} {v : Value} {xs : List α} (h : d.R e W base ok v xs) (hu : Upd S W W') (hs : ∀ k, base ≤ k → ¬ S k) : d.R e W' base ok v xs :=
  Kd.R_mono (Kd.R_move (Kd.R_bound h) (fun k hk => hu.block k hk.2.2.1 (hs k hk.2.1))) (fun _ hk => hk.1)
/-- The document's answer: lists of its own. -/
structure WantR (W : World) (base : Nat) (B0 : Option Addr) (b0 : Nat) (B1 : Option Addr) (b1 : Nat) (B2 : Option Addr) (b2 : Nat) (js : List S82) (jd jx : List Int) : Prop where
  s : Kd.R k81 81 W base (fun _ => True) (.slice B0 js.length b0) (js.map t81)
  d : Kd.R (Kd.int .u8) 5 W base (fun _ => True) (.slice B1 jd.length b1) jd
  x : Kd.R (Kd.int .u8) 5 W base (fun _ => True) (.slice B2 jx.length b2) jx
theorem WantR.upd {W W' : World} {base : Nat} {B0 : Option Addr} {b0 : Nat} {B1 : Option Addr} {b1 : Nat} {B2 : Option Addr} {b2 : Nat} {js : List S82} {jd jx : List Int} {S : Nat → Prop} (h : WantR W base B0 b0 B1 b1 B2 b2 js jd jx) (hu : Upd S W W') (hs : ∀ k, base ≤ k → ¬ S k) : WantR W' base B0 b0 B1 b1 B2 b2 js jd jx :=
  ⟨R_upd h.s hu hs, R_upd h.d hu hs, R_upd h.x hu hs⟩
theorem WantR.below {W W' : World} {base : Nat} {B0 : Option Addr} {b0 : Nat} {B1 : Option Addr} {b1 : Nat} {B2 : Option Addr} {b2 : Nat} {js : List S82} {jd jx : List Int} (h : WantR W base B0 b0 B1 b1 B2 b2 js jd jx) (hb : Below W.heap.size W W') : WantR W' base B0 b0 B1 b1 B2 b2 js jd jx :=
  ⟨Kd.R_below h.s hb, Kd.R_below h.d hb, Kd.R_below h.x hb⟩
theorem WantR.e {W : World} {base : Nat} {B0 : Option Addr} {b0 : Nat} {B1 : Option Addr} {b1 : Nat} {B2 : Option Addr} {b2 : Nat} {js : List S82} {jd jx : List Int} (h : WantR W base B0 b0 B1 b1 B2 b2 js jd jx) : EdR W B0 b0 js.length (js.map t81) B1 b1 jd.length jd B2 b2 jx.length jx := by
  have h0 := (Kd.R_reads' h.s).2
  rw [List.length_map] at h0
  exact ⟨h0.2, (Kd.R_reads' h.d).2.2, (Kd.R_reads' h.x).2.2, h0.1⟩
theorem WvO.notblk {W : World} {base g : Nat} {a : Wv} {cs : Array Value} {t : TypeId} (h : WvO W base a) (hg : W.heap[g]? = some (.cells cs t (0, 0))) (h1 : 82 ≠ t) (h2 : 5 ≠ t) : ¬ a.B g := by
  rintro (hk | hk | hk)
  · exact own_ne h.s hg h1 hk.symm
  · exact own_ne h.d hg h2 hk.symm
  · exact own_ne h.x hg h2 hk.symm
theorem row_cells {W : World} {b n c : Nat} {A : Option Addr} {cs : List Value} (h : W.ownsRow b 43 4 (.slice A n c) n cs) (hn : 0 < n) : ∃ ad, A = some ad ∧ ∀ q u, cs[q]? = some u → W.cell? (ad.add q) = some u := by
  rcases h.2 with ⟨e1, e2⟩ | ⟨g, cap, cur, e1, _⟩
  · omega
  · cases e1
    exact ⟨_, rfl, fun q u hu => h.cells (g := g) rfl q u hu⟩
theorem rjoin_c {A : Option Addr} {c n : Nat} {X : List S43} {L : List S45} {w : World} (win : Int) (hC : Kd.C k45 w A n L) (hc : n ≤ c) (hXL : X.map to45 = L) (hn : n ≤ 1048576) (hf2 : ∀ y ∈ X, ∀ s ∈ y.f1.f0.map t81, -9223372036854775808 ≤ s.f2 ∧ s.f2 ≤ 9223372036854775807) (t0 : totS X ≤ 5000000000000) (t1 : totD X ≤ 100000000000000) (t2 : totX X ≤ 100000000000000) {js : List S82} {jd jx : List Int} {code : Int} (hr : joinR win X = ((js, jd, jx), code)) :
    Calls Try.prog 29 #[.int .i64 win, .slice A n c] w fun e w' => ∃ B0 b0 B1 b1 B2 b2, e = .returned (.tuple #[.agg #[.slice B0 js.length b0, .slice B1 jd.length b1, .slice B2 jx.length b2], .int .i64 code]) ∧ WantR w' w.heap.size B0 b0 B1 b1 B2 b2 js jd jx ∧ Below w.heap.size w w' := by
  obtain rfl : L.length = n := hC.1
  have hXn : X.length = L.length := by rw [← hXL, List.length_map]
  obtain ⟨k, hk⟩ := rj_f win X (by omega) hf2 t0 t1 t2
  rw [hXL, hr] at hk
  refine (sapperref17_Join.calls k win A c L (js.map t81) jd jx code w hC hc hk).mono ?_
  rintro e w' ⟨v0, v1, v2, rfl, r0, r1, r2, hb⟩
  obtain ⟨B0, b0, e0⟩ := Kd.R_slice r0
  obtain ⟨B1, b1, e1⟩ := Kd.R_slice r1
  obtain ⟨B2, b2, e2⟩ := Kd.R_slice r2
  subst e0 e1 e2
  rw [List.length_map] at r0 ⊢
  exact ⟨B0, b0, B1, b1, B2, b2, rfl, ⟨Kd.R_mono r0 (fun _ _ => trivial), Kd.R_mono r1 (fun _ _ => trivial), Kd.R_mono r2 (fun _ _ => trivial)⟩, hb⟩
set_option maxRecDepth 100000 in
set_option maxHeartbeats 32000000 in
theorem walk_cutterJoins (win : Int) (A : Option Addr) (c : Nat) (L : List S45) (w : World) (hw : (Lit.int .i64 win).wf = true) (h : WinsU w A c L) :
    Calls Try.prog 7 #[.int .i64 win, .slice A L.length c] w fun e w' => e = .returned (.bool true) ∧ Below w.heap.size w w' := by
  obtain ⟨hC, hc, hn, he⟩ := h
  obtain ⟨X, hX⟩ : ∃ X, L.map from45 = X := ⟨_, rfl⟩
  have hXL : X.map to45 = L := by rw [← hX]; exact to_from L
  have hXn : X.length = L.length := by rw [← hX, List.length_map]
  have hXe : ∀ y ∈ X, (y.f1.f0.length ≤ 1048576 ∧ y.f1.f1.length ≤ 1048576 ∧ y.f1.f2.length ≤ 1048576) ∧ ∀ s ∈ y.f1.f0.map t81, -9223372036854775808 ≤ s.f2 ∧ s.f2 ≤ 9223372036854775807 := by
    intro y hy
    rw [← hX] at hy
    obtain ⟨e, hee, rfl⟩ := List.mem_map.1 hy
    obtain ⟨h0, h1, h2, h3⟩ := he e hee
    refine ⟨⟨by show (e.f1.f0.map f81).length ≤ _; rw [List.length_map]; exact h0, h1, h2⟩, fun s hs => ?_⟩
    have hs : s ∈ (e.f1.f0.map f81).map t81 := hs
    rw [t81_f81] at hs
    exact (h3 s hs).2.2
  have htot := tot_le X.length 1048576 X (Nat.le_refl _) (fun y hy => (hXe y hy).1)
  obtain ⟨n, hLn⟩ : ∃ n, L.length = n := ⟨_, rfl⟩
  have ht : totS X ≤ 5000000000000 ∧ totD X ≤ 100000000000000 ∧ totX X ≤ 100000000000000 := by
    have h1 : X.length * (1048576 + 1) ≤ 1048576 * (1048576 + 1) := Nat.mul_le_mul_right _ (by omega)
    have h2 : X.length * 1048576 ≤ 1048576 * 1048576 := Nat.mul_le_mul_right _ (by omega)
    omega
  obtain ⟨js, jd, jx, code, hJ⟩ : ∃ js jd jx code, joinR win X = ((js, jd, jx), code) := ⟨_, _, _, _, rfl⟩
  have HJ := Hd.mk hJ
  have HT := Hd.mk ht
  rw [hLn] at hC hc hn hXn ⊢
  have HC := Hd.mk hC
  have HCC := Hd.mk hc
  have HX := Hd.mk (And.intro hX (And.intro hXL (And.intro hXn hLn)))
  have HXE := Hd.mk hXe
  have HLE := Hd.mk he
  clear hC hc he hX hXL hXn hXe htot hLn ht hJ hw
  go_enter Try.func7, Try.ntmps7
  go_wp2
  go_loopg [5, 18] n (fun k v5 v18 W => ∃ (i : Nat) (l : List Wv), v18 = .int .i64 i ∧ i + k = n ∧ Hd (RowO W w.heap.size v5 l) ∧ Hd (l.map Wv.y = X.take i ∧ l.length = i) ∧ Hd (Below w.heap.size w W))
  case atStart => exact ⟨0, [], rfl, by omega, ⟨RowO.nil _ _⟩, ⟨by simp⟩, ⟨Below.refl _ _⟩⟩
  case round =>
    obtain ⟨i, l, rfl, hk, HR, HL, HB⟩ := hrel
    rcases gk with _ | g1
    · have hlt : decide ((i : Int) < (n : Int)) = false := decide_eq_false (by omega)
      have hi : i = n := by omega
      subst hi
      obtain ⟨Ag, cg, rfl⟩ := HR.out.form HL.out.2
      have HLX : Hd (l.map Wv.y = X) := ⟨by rw [HL.out.1, List.take_of_length_le (by rw [HX.out.2.2.1]; exact Nat.le_refl _)]⟩
      go_wp2_with fail
      have hjc := join_c (A := Ag) (n := i) (c := cg) (X := X) (w := wr) win (by have := (HR.out.C HL.out.2).1; rwa [HLX.out] at this) (HR.out.C HL.out.2).2 HT.out.1 HT.out.2.1 HT.out.2.2
      rw [HJ.out] at hjc
      have HJC := Hd.mk hjc
      clear hjc
      refine HJC.out.mono ?_
      clear HJC
      rintro e w2 ⟨s, d, x, rfl, hs, hd, hx, hdj, hb2⟩
      obtain ⟨As, aas, rfl⟩ := hs.form rfl
      obtain ⟨Ad, aad, rfl⟩ := own_slice hd
      obtain ⟨Ax, aax, rfl⟩ := own_slice hx
      obtain ⟨av, hav⟩ : ∃ av : Wv, av = ⟨.slice As js.length aas, .slice Ad jd.length aad, .slice Ax jx.length aax, ⟨0, ⟨js, jd, jx⟩⟩⟩ := ⟨_, rfl⟩
      have hA2 : WvO w2 wr.heap.size av := by rw [hav]; exact ⟨hs, hd, hx, hdj⟩
      have hba3 := (Below.refl w2.heap.size w2).alloc (Nat.le_refl _) (.cells #[.slice As js.length aas, .slice Ad jd.length aad, .slice Ax jx.length aax] 29)
      have HG8 := Hd.mk (blk_new w2 (.cells #[.slice As js.length aas, .slice Ad jd.length aad, .slice Ax jx.length aax] 29))
      have HA := Hd.mk (hA2.below hba3)
      have HAlt := Hd.mk hA2.lt
      have HAb := Hd.mk hA2.base
      have HR3 := Hd.mk ((HR.out.below hb2).below hba3)
      have HRlt := Hd.mk HR.out.lt
      have HB3 := Hd.mk (below_step (below_step HB.out hb2) hba3)
      have hsz2 := hb2.size
      have hsz3 := hba3.size
      have hszr := HB.out.size
      have HAV := Hd.mk hav
      clear hs hd hx hdj hb2 hba3 hA2 HR HB hav
      go_wp2_with fail
      obtain ⟨w3, hw3⟩ : ∃ v, w2.alloc (.cells #[.slice As js.length aas, .slice Ad jd.length aad, .slice Ax jx.length aax] 29) = v := ⟨_, rfl⟩
      rw [hw3] at HG8 HA HR3 HB3 hsz3 ⊢
      clear hw3
      have hjc := join_c (A := Ag) (n := i) (c := cg) (X := X) (w := w3) win (by have := (HR3.out.C HL.out.2).1; rwa [HLX.out] at this) (HR3.out.C HL.out.2).2 HT.out.1 HT.out.2.1 HT.out.2.2
      rw [HJ.out] at hjc
      refine hjc.mono ?_
      clear hjc
      rintro e w4 ⟨s, d, x, rfl, hs, hd, hx, hdj, hb4⟩
      obtain ⟨Bs, bbs, rfl⟩ := hs.form rfl
      obtain ⟨Bd, bbd, rfl⟩ := own_slice hd
      obtain ⟨Bx, bbx, rfl⟩ := own_slice hx
      obtain ⟨bv, hbv⟩ : ∃ bv : Wv, bv = ⟨.slice Bs js.length bbs, .slice Bd jd.length bbd, .slice Bx jx.length bbx, ⟨0, ⟨js, jd, jx⟩⟩⟩ := ⟨_, rfl⟩
      have hB4 : WvO w4 w3.heap.size bv := by rw [hbv]; exact ⟨hs, hd, hx, hdj⟩
      have hba5 := (Below.refl w4.heap.size w4).alloc (Nat.le_refl _) (.cells #[.slice Bs js.length bbs, .slice Bd jd.length bbd, .slice Bx jx.length bbx] 29)
      have HG10 := Hd.mk (blk_new w4 (.cells #[.slice Bs js.length bbs, .slice Bd jd.length bbd, .slice Bx jx.length bbx] 29))
      have HBv := Hd.mk (hB4.below hba5)
      have HBb := Hd.mk hB4.base
      have HA5 := Hd.mk ((HA.out.below hb4).below hba5)
      have HG85 := Hd.mk (blk_below (blk_below HG8.out hb4) hba5)
      have HR5 := Hd.mk ((HR3.out.below hb4).below hba5)
      have HB5 := Hd.mk (below_step (below_step HB3.out hb4) hba5)
      have hsz4 := hb4.size
      have hsz5 := hba5.size
      have HBV := Hd.mk hbv
      clear hs hd hx hdj hb4 hba5 hB4 HR3 HB3 hbv HA HG8
      go_wp2_with fail
      obtain ⟨w5, hw5⟩ : ∃ v, w4.alloc (.cells #[.slice Bs js.length bbs, .slice Bd jd.length bbd, .slice Bx jx.length bbx] 29) = v := ⟨_, rfl⟩
      rw [hw5] at HG10 HBv HA5 HG85 HR5 HB5 hsz5 ⊢
      clear hw5
      refine (rjoin_c (X := X) win (Kd.C_below HC.out HB5.out) HCC.out HX.out.2.1 hn (fun y hy => (HXE.out y hy).2) HT.out.1 HT.out.2.1 HT.out.2.2 HJ.out).mono ?_
      rintro e w6 ⟨C0, k0, C1, k1, C2, k2, rfl, hW, hb6⟩
      have hba7 := (Below.refl w6.heap.size w6).alloc (Nat.le_refl _) (.cells #[.slice C0 js.length k0, .slice C1 jd.length k1, .slice C2 jx.length k2] 26)
      have HG12 := Hd.mk (blk_new w6 (.cells #[.slice C0 js.length k0, .slice C1 jd.length k1, .slice C2 jx.length k2] 26))
      have HWa := Hd.mk (hW.below hba7)
      have HBv7 := Hd.mk ((HBv.out.below hb6).below hba7)
      have HA7 := Hd.mk ((HA5.out.below hb6).below hba7)
      have HG87 := Hd.mk (blk_below (blk_below HG85.out hb6) hba7)
      have HG107 := Hd.mk (blk_below (blk_below HG10.out hb6) hba7)
      have HR7 := Hd.mk ((HR5.out.below hb6).below hba7)
      have HB7 := Hd.mk (below_step (below_step HB5.out hb6) hba7)
      have hsz6 := hb6.size
      have hsz7 := hba7.size
      clear hW hb6 hba7 HR5 HB5 HA5 HG85 HG10 HBv
      go_wp2
      obtain ⟨w7, hw7⟩ : ∃ v, w6.alloc (.cells #[.slice C0 js.length k0, .slice C1 jd.length k1, .slice C2 jx.length k2] 26) = v := ⟨_, rfl⟩
      rw [hw7] at HG12 HWa HBv7 HA7 HG87 HG107 HR7 HB7 hsz7 ⊢
      have m0 := blk_cell HG87.out 0
      have m1 := blk_cell HG87.out 1
      have m2 := blk_cell HG87.out 2
      have n0 := blk_cell HG107.out 0
      have n1 := blk_cell HG107.out 1
      have n2 := blk_cell HG107.out 2
      have o0 := blk_cell HG12.out 0
      have o1 := blk_cell HG12.out 1
      have o2 := blk_cell HG12.out 2
      simp at m0 m1 m2 n0 n1 n2 o0 o1 o2
      have hlen := joinR_len win X
      rw [HJ.out] at hlen
      simp only at hlen
      have HLN : Hd (js.length ≤ 5000000000000 ∧ jd.length ≤ 100000000000000 ∧ jx.length ≤ 100000000000000) := ⟨by have := HT.out; omega⟩
      have hA := HA7.out
      rw [HAV.out] at hA
      have hB := HBv7.out
      rw [HBV.out] at hB
      have HPA : Hd (∀ W, Below w7.heap.size w7 W → Calls Try.prog 17 #[.agg #[.slice As js.length aas, .slice Ad jd.length aad, .slice Ax jx.length aax]] W fun e w' => ∃ B b, e = .returned (.agg #[.slice B js.length b, .slice Ad jd.length aad, .slice Ax jx.length aax]) ∧ (Kd.C k81 w' B js.length (js.map t81) ∧ js.length ≤ b) ∧ Below W.heap.size W w') := ⟨fun W hW => plain_r (Kd.C_below (hA.s.C82 rfl) hW) (by have := HLN.out.1; omega)⟩
      have HPB : Hd (∀ W, Below w7.heap.size w7 W → Calls Try.prog 17 #[.agg #[.slice Bs js.length bbs, .slice Bd jd.length bbd, .slice Bx jx.length bbx]] W fun e w' => ∃ B b, e = .returned (.agg #[.slice B js.length b, .slice Bd jd.length bbd, .slice Bx jx.length bbx]) ∧ (Kd.C k81 w' B js.length (js.map t81) ∧ js.length ≤ b) ∧ Below W.heap.size W w') := ⟨fun W hW => plain_r (Kd.C_below (hB.s.C82 rfl) hW) (by have := HLN.out.1; omega)⟩
      have HDA : Hd (∀ W, Below w7.heap.size w7 W → ((Kd.int .u8).C W Ad jd.length jd ∧ (Kd.int .u8).C W Ax jx.length jx) ∧ (Kd.int .u8).C W Bd jd.length jd ∧ (Kd.int .u8).C W Bx jx.length jx) := ⟨fun W hW => ⟨⟨Kd.C_below (own_C8 hA.d) hW, Kd.C_below (own_C8 hA.x) hW⟩, Kd.C_below (own_C8 hB.d) hW, Kd.C_below (own_C8 hB.x) hW⟩⟩
      have HWE : Hd (∀ W, Below w7.heap.size w7 W → EdR W C0 k0 js.length (js.map t81) C1 k1 jd.length jd C2 k2 jx.length jx) := ⟨fun W hW => (HWa.out.below hW).e⟩
      have HSW : Hd (∀ W, Below w7.heap.size w7 W → Calls Try.prog 15 #[.slice Ag i cg, .slice A i c] W fun e w' => e = .returned (.bool true) ∧ Below W.heap.size W w') := ⟨fun W hW => sameW_c (X := X) (Y := L) (by have := ((HR7.out.below hW).C HL.out.2).1; rwa [HLX.out] at this) (HR7.out.C HL.out.2).2 (Kd.C_below HC.out (below_step HB7.out hW)) HCC.out HX.out.2.1 (fun y hy => by have := (HXE.out y hy).1.1; omega)⟩
      have HBD := Hd.mk (Below.drew' w7)
      have hcc : (code == code) = true := by simp
      have hjl : js.length ≤ 9223372036854775806 := by have := HLN.out.1; omega
      clear hlen hA hB
      refine start_ (n := 23) (S := fun w' => w'.cell? ⟨w2.heap.size, 0, none⟩ = some (.slice As js.length aas) ∧ w'.cell? ⟨w2.heap.size, 1, none⟩ = some (.slice Ad jd.length aad) ∧ w'.cell? ⟨w2.heap.size, 2, none⟩ = some (.slice Ax jx.length aax) ∧ w'.cell? ⟨w4.heap.size, 0, none⟩ = some (.slice Bs js.length bbs) ∧ w'.cell? ⟨w4.heap.size, 1, none⟩ = some (.slice Bd jd.length bbd) ∧ w'.cell? ⟨w4.heap.size, 2, none⟩ = some (.slice Bx jx.length bbx) ∧ w'.cell? ⟨w6.heap.size, 0, none⟩ = some (.slice C0 js.length k0) ∧ w'.cell? ⟨w6.heap.size, 1, none⟩ = some (.slice C1 jd.length k1) ∧ w'.cell? ⟨w6.heap.size, 2, none⟩ = some (.slice C2 jx.length k2)) (ds := []) #[false, false, false, false, false, false, false, false, false, false, false, false, false, false, false, false, false, false, false, false, false, false, false] (by kernel_rfl) rfl rfl ⟨m0, m1, m2, n0, n1, n2, o0, o1, o2⟩ (fun hHeld => ?_)
      refine pure_ (i := 0) (N := some 46) (v := ?_) (a' := ?_) #[true, false, false, false, false, false, false, false, false, false, false, false, false, false, false, false, false, false, false, false, false, false, false] rfl rfl (by kernel_rfl) (fun _ _ _ h => h) (Or.inl ⟨by rfl, ?_⟩) ?_ ?_
      rotate_left
      · intro w'
        go_simp
        with_reducible rfl
      rotate_left
      · simp only [Act.put, List.setIfInBounds_toArray, List.set_cons_zero, List.set_cons_succ, i64_w, i32_w]
        rfl
      refine pure_ (i := 1) (N := some 47) (v := ?_) (a' := ?_) #[true, true, false, false, false, false, false, false, false, false, false, false, false, false, false, false, false, false, false, false, false, false, false] rfl rfl (by kernel_rfl) (fun _ _ _ h => h) (Or.inl ⟨by rfl, ?_⟩) ?_ ?_
      rotate_left
      · intro w'
        go_simp
        with_reducible rfl
      rotate_left
      · simp only [Act.put, List.setIfInBounds_toArray, List.set_cons_zero, List.set_cons_succ, i64_w, i32_w]
        rfl
      refine pure_ (i := 2) (N := some 48) (v := ?_) (a' := ?_) #[true, true, true, false, false, false, false, false, false, false, false, false, false, false, false, false, false, false, false, false, false, false, false] rfl rfl (by kernel_rfl) (fun _ _ _ h => h) (Or.inl ⟨by rfl, ?_⟩) ?_ ?_
      rotate_left
      · intro w'
        go_simp
        with_reducible rfl
      rotate_left
      · simp only [Act.put, List.setIfInBounds_toArray, List.set_cons_zero, List.set_cons_succ, i64_w, i32_w]
        rfl
      refine pure_ (i := 3) (N := some 49) (v := ?_) (a' := ?_) #[true, true, true, true, false, false, false, false, false, false, false, false, false, false, false, false, false, false, false, false, false, false, false] rfl rfl (by kernel_rfl) (fun _ _ _ h => h) (Or.inl ⟨by rfl, ?_⟩) ?_ ?_
      rotate_left
      · intro w'
        go_simp
        with_reducible rfl
      rotate_left
      · simp only [Act.put, List.setIfInBounds_toArray, List.set_cons_zero, List.set_cons_succ, i64_w, i32_w]
        rfl
      refine take_ (i := 4) (N := some 50) (v := ?_) (a' := ?_) #[true, true, true, true, true, false, false, false, false, false, false, false, false, false, false, false, false, false, false, false, false, false, false] rfl rfl (by kernel_rfl) (fun _ _ _ h => h) (Or.inl ⟨by rfl, ?_⟩) hHeld ?_ ?_
      rotate_left
      · rintro w' ⟨s0, s1, s2, s3, s4, s5, s6, s7, s8⟩
        go_simp
        with_reducible rfl
      rotate_left
      · simp only [Act.put, List.setIfInBounds_toArray, List.set_cons_zero, List.set_cons_succ, i64_w, i32_w]
        rfl
      refine take_ (i := 6) (N := some 52) (v := ?_) (a' := ?_) #[true, true, true, true, true, false, true, false, false, false, false, false, false, false, false, false, false, false, false, false, false, false, false] rfl rfl (by kernel_rfl) (fun _ _ _ h => h) (Or.inl ⟨by rfl, ?_⟩) hHeld ?_ ?_
      rotate_left
      · rintro w' ⟨s0, s1, s2, s3, s4, s5, s6, s7, s8⟩
        go_simp
        with_reducible rfl
      rotate_left
      · simp only [Act.put, List.setIfInBounds_toArray, List.set_cons_zero, List.set_cons_succ, i64_w, i32_w]
        rfl
      refine one_ (i := 5) (N := some 51) #[true, true, true, true, true, true, true, false, false, false, false, false, false, false, false, false, false, false, false, false, false, false, false] rfl rfl (by kernel_rfl) (by decide) (fun K hK => ?_)
      refine goes_ Try.func17 (by kernel_rfl) rfl #[.agg #[.slice As js.length aas, .slice Ad jd.length aad, .slice Ax jx.length aax]] (by rfl) rfl rfl (by simp only [List.map_toArray, List.map_cons, List.map_nil]; rfl) ?_
      with_reducible refine (HPA.out _ HBD.out).mono ?_
      rintro e y1 ⟨P1, p1, rfl, hP1, hy1⟩
      refine ⟨_, rfl, ?_⟩
      have HY1 := Hd.mk (below_step HBD.out hy1)
      have HP1 := Hd.mk hP1
      have hx1 := HY1.out
      clear hy1 hP1
      refine hK.out _ _ ⟨pw_cell_below hx1 m0, pw_cell_below hx1 m1, pw_cell_below hx1 m2, pw_cell_below hx1 n0, pw_cell_below hx1 n1, pw_cell_below hx1 n2, pw_cell_below hx1 o0, pw_cell_below hx1 o1, pw_cell_below hx1 o2⟩ (fun hHeld => ?_)
      clear hK K
      refine norm_ (a' := ?_) ?_ ?_
      rotate_left
      · show Act.put _ (some 51) _ = _
        simp only [Act.put, List.setIfInBounds_toArray, List.set_cons_zero, List.set_cons_succ, i64_w, i32_w]
        rfl
      refine one_ (i := 7) (N := some 53) #[true, true, true, true, true, true, true, true, false, false, false, false, false, false, false, false, false, false, false, false, false, false, false] rfl rfl (by kernel_rfl) (by decide) (fun K hK => ?_)
      refine goes_ Try.func16 (by kernel_rfl) rfl #[.agg #[.slice P1 js.length p1, .slice Ad jd.length aad, .slice Ax jx.length aax], .agg #[.slice C0 js.length k0, .slice C1 jd.length k1, .slice C2 jx.length k2]] (by rfl) rfl rfl (by simp only [List.map_toArray, List.map_cons, List.map_nil]; rfl) ?_
      with_reducible refine (same17_c ⟨HP1.out.1, (HDA.out _ HY1.out).1.1, (HDA.out _ HY1.out).1.2, HP1.out.2⟩ (HWE.out _ HY1.out) hjl).mono ?_
      rintro e y2 ⟨rfl, hy2⟩
      refine ⟨_, rfl, ?_⟩
      have HY2 := Hd.mk (below_step HY1.out hy2)
      have hx2 := HY2.out
      clear hy2
      refine hK.out _ _ ⟨pw_cell_below hx2 m0, pw_cell_below hx2 m1, pw_cell_below hx2 m2, pw_cell_below hx2 n0, pw_cell_below hx2 n1, pw_cell_below hx2 n2, pw_cell_below hx2 o0, pw_cell_below hx2 o1, pw_cell_below hx2 o2⟩ (fun hHeld => ?_)
      clear hK K
      refine norm_ (a' := ?_) ?_ ?_
      rotate_left
      · show Act.put _ (some 53) _ = _
        simp only [Act.put, List.setIfInBounds_toArray, List.set_cons_zero, List.set_cons_succ, i64_w, i32_w]
        rfl
      refine pure_ (i := 8) (N := some 54) (v := ?_) (a' := ?_) #[true, true, true, true, true, true, true, true, true, false, false, false, false, false, false, false, false, false, false, false, false, false, false] rfl rfl (by kernel_rfl) (fun _ _ _ h => h) (Or.inl ⟨by rfl, ?_⟩) ?_ ?_
      rotate_left
      · intro w'
        go_simp
        with_reducible rfl
      rotate_left
      · simp only [Act.put, List.setIfInBounds_toArray, List.set_cons_zero, List.set_cons_succ, i64_w, i32_w]
        rfl
      refine pure_ (i := 9) (N := some 55) (v := ?_) (a' := ?_) #[true, true, true, true, true, true, true, true, true, true, false, false, false, false, false, false, false, false, false, false, false, false, false] rfl rfl (by kernel_rfl) (fun _ _ _ h => h) (Or.inl ⟨by rfl, ?_⟩) ?_ ?_
      rotate_left
      · intro w'
        go_simp
        with_reducible rfl
      rotate_left
      · simp only [Act.put, List.setIfInBounds_toArray, List.set_cons_zero, List.set_cons_succ, i64_w, i32_w]
        rfl
      refine pure_ (i := 10) (N := some 56) (v := ?_) (a' := ?_) #[true, true, true, true, true, true, true, true, true, true, true, false, false, false, false, false, false, false, false, false, false, false, false] rfl rfl (by kernel_rfl) (fun _ _ _ h => h) (Or.inl ⟨by rfl, ?_⟩) ?_ ?_
      rotate_left
      · intro w'
        go_simp
        with_reducible rfl
      rotate_left
      · simp only [Act.put, List.setIfInBounds_toArray, List.set_cons_zero, List.set_cons_succ, i64_w, i32_w]
        rfl
      refine take_ (i := 11) (N := some 57) (v := ?_) (a' := ?_) #[true, true, true, true, true, true, true, true, true, true, true, true, false, false, false, false, false, false, false, false, false, false, false] rfl rfl (by kernel_rfl) (fun _ _ _ h => h) (Or.inl ⟨by rfl, ?_⟩) hHeld ?_ ?_
      rotate_left
      · rintro w' ⟨s0, s1, s2, s3, s4, s5, s6, s7, s8⟩
        go_simp
        with_reducible rfl
      rotate_left
      · simp only [Act.put, List.setIfInBounds_toArray, List.set_cons_zero, List.set_cons_succ, i64_w, i32_w]
        rfl
      refine take_ (i := 13) (N := some 59) (v := ?_) (a' := ?_) #[true, true, true, true, true, true, true, true, true, true, true, true, false, true, false, false, false, false, false, false, false, false, false] rfl rfl (by kernel_rfl) (fun _ _ _ h => h) (Or.inl ⟨by rfl, ?_⟩) hHeld ?_ ?_
      rotate_left
      · rintro w' ⟨s0, s1, s2, s3, s4, s5, s6, s7, s8⟩
        go_simp
        with_reducible rfl
      rotate_left
      · simp only [Act.put, List.setIfInBounds_toArray, List.set_cons_zero, List.set_cons_succ, i64_w, i32_w]
        rfl
      refine one_ (i := 12) (N := some 58) #[true, true, true, true, true, true, true, true, true, true, true, true, true, true, false, false, false, false, false, false, false, false, false] rfl rfl (by kernel_rfl) (by decide) (fun K hK => ?_)
      refine goes_ Try.func17 (by kernel_rfl) rfl #[.agg #[.slice Bs js.length bbs, .slice Bd jd.length bbd, .slice Bx jx.length bbx]] (by rfl) rfl rfl (by simp only [List.map_toArray, List.map_cons, List.map_nil]; rfl) ?_
      with_reducible refine (HPB.out _ HY2.out).mono ?_
      rintro e y3 ⟨P2, p2, rfl, hP2, hy3⟩
      refine ⟨_, rfl, ?_⟩
      have HY3 := Hd.mk (below_step HY2.out hy3)
      have HP2 := Hd.mk hP2
      have hx3 := HY3.out
      clear hy3 hP2
      refine hK.out _ _ ⟨pw_cell_below hx3 m0, pw_cell_below hx3 m1, pw_cell_below hx3 m2, pw_cell_below hx3 n0, pw_cell_below hx3 n1, pw_cell_below hx3 n2, pw_cell_below hx3 o0, pw_cell_below hx3 o1, pw_cell_below hx3 o2⟩ (fun hHeld => ?_)
      clear hK K
      refine norm_ (a' := ?_) ?_ ?_
      rotate_left
      · show Act.put _ (some 58) _ = _
        simp only [Act.put, List.setIfInBounds_toArray, List.set_cons_zero, List.set_cons_succ, i64_w, i32_w]
        rfl
      refine one_ (i := 14) (N := some 60) #[true, true, true, true, true, true, true, true, true, true, true, true, true, true, true, false, false, false, false, false, false, false, false] rfl rfl (by kernel_rfl) (by decide) (fun K hK => ?_)
      refine goes_ Try.func16 (by kernel_rfl) rfl #[.agg #[.slice P2 js.length p2, .slice Bd jd.length bbd, .slice Bx jx.length bbx], .agg #[.slice C0 js.length k0, .slice C1 jd.length k1, .slice C2 jx.length k2]] (by rfl) rfl rfl (by simp only [List.map_toArray, List.map_cons, List.map_nil]; rfl) ?_
      with_reducible refine (same17_c ⟨HP2.out.1, (HDA.out _ HY3.out).2.1, (HDA.out _ HY3.out).2.2, HP2.out.2⟩ (HWE.out _ HY3.out) hjl).mono ?_
      rintro e y4 ⟨rfl, hy4⟩
      refine ⟨_, rfl, ?_⟩
      have HY4 := Hd.mk (below_step HY3.out hy4)
      have hx4 := HY4.out
      clear hy4
      refine hK.out _ _ ⟨pw_cell_below hx4 m0, pw_cell_below hx4 m1, pw_cell_below hx4 m2, pw_cell_below hx4 n0, pw_cell_below hx4 n1, pw_cell_below hx4 n2, pw_cell_below hx4 o0, pw_cell_below hx4 o1, pw_cell_below hx4 o2⟩ (fun hHeld => ?_)
      clear hK K
      refine norm_ (a' := ?_) ?_ ?_
      rotate_left
      · show Act.put _ (some 60) _ = _
        simp only [Act.put, List.setIfInBounds_toArray, List.set_cons_zero, List.set_cons_succ, i64_w, i32_w]
        rfl
      refine pure_ (i := 15) (N := some 61) (v := ?_) (a' := ?_) #[true, true, true, true, true, true, true, true, true, true, true, true, true, true, true, true, false, false, false, false, false, false, false] rfl rfl (by kernel_rfl) (fun _ _ _ h => h) (Or.inl ⟨by rfl, ?_⟩) ?_ ?_
      rotate_left
      · intro w'
        go_simp
        with_reducible rfl
      rotate_left
      · simp only [Act.put, List.setIfInBounds_toArray, List.set_cons_zero, List.set_cons_succ, i64_w, i32_w]
        rfl
      refine pure_ (i := 16) (N := some 62) (v := ?_) (a' := ?_) #[true, true, true, true, true, true, true, true, true, true, true, true, true, true, true, true, true, false, false, false, false, false, false] rfl rfl (by kernel_rfl) (fun _ _ _ h => h) (Or.inl ⟨by rfl, ?_⟩) ?_ ?_
      rotate_left
      · intro w'
        go_simp
        with_reducible rfl
      rotate_left
      · simp only [Act.put, List.setIfInBounds_toArray, List.set_cons_zero, List.set_cons_succ, i64_w, i32_w]
        rfl
      refine pure_ (i := 17) (N := some 63) (v := ?_) (a' := ?_) #[true, true, true, true, true, true, true, true, true, true, true, true, true, true, true, true, true, true, false, false, false, false, false] rfl rfl (by kernel_rfl) (fun _ _ _ h => h) (Or.inl ⟨by rfl, ?_⟩) ?_ ?_
      rotate_left
      · intro w'
        go_simp
        with_reducible rfl
      rotate_left
      · simp only [Act.put, List.setIfInBounds_toArray, List.set_cons_zero, List.set_cons_succ, i64_w, i32_w]
        rfl
      refine pure_ (i := 18) (N := some 64) (v := ?_) (a' := ?_) #[true, true, true, true, true, true, true, true, true, true, true, true, true, true, true, true, true, true, true, false, false, false, false] rfl rfl (by kernel_rfl) (fun _ _ _ h => h) (Or.inl ⟨by rfl, ?_⟩) ?_ ?_
      rotate_left
      · intro w'
        go_simp
        with_reducible rfl
      rotate_left
      · simp only [Act.put, List.setIfInBounds_toArray, List.set_cons_zero, List.set_cons_succ, i64_w, i32_w]
        rfl
      refine pure_ (i := 19) (N := some 65) (v := ?_) (a' := ?_) #[true, true, true, true, true, true, true, true, true, true, true, true, true, true, true, true, true, true, true, true, false, false, false] rfl rfl (by kernel_rfl) (fun _ _ _ h => h) (Or.inl ⟨by rfl, ?_⟩) ?_ ?_
      rotate_left
      · intro w'
        go_simp
        with_reducible rfl
      rotate_left
      · simp only [Act.put, List.setIfInBounds_toArray, List.set_cons_zero, List.set_cons_succ, i64_w, i32_w]
        rfl
      refine one_ (i := 20) (N := some 66) #[true, true, true, true, true, true, true, true, true, true, true, true, true, true, true, true, true, true, true, true, true, false, false] rfl rfl (by kernel_rfl) (by decide) (fun K hK => ?_)
      refine goes_ Try.func15 (by kernel_rfl) rfl #[.slice Ag i cg, .slice A i c] (by rfl) rfl rfl (by simp only [List.map_toArray, List.map_cons, List.map_nil]; rfl) ?_
      with_reducible refine (HSW.out _ HY4.out).mono ?_
      rintro e y5 ⟨rfl, hy5⟩
      refine ⟨_, rfl, ?_⟩
      have HY5 := Hd.mk (below_step HY4.out hy5)
      have hx5 := HY5.out
      clear hy5
      refine hK.out _ _ ⟨pw_cell_below hx5 m0, pw_cell_below hx5 m1, pw_cell_below hx5 m2, pw_cell_below hx5 n0, pw_cell_below hx5 n1, pw_cell_below hx5 n2, pw_cell_below hx5 o0, pw_cell_below hx5 o1, pw_cell_below hx5 o2⟩ (fun hHeld => ?_)
      clear hK K
      refine norm_ (a' := ?_) ?_ ?_
      rotate_left
      · show Act.put _ (some 66) _ = _
        simp only [Act.put, List.setIfInBounds_toArray, List.set_cons_zero, List.set_cons_succ, i64_w, i32_w]
        rfl
      refine pure_ (i := 21) (N := some 67) (v := ?_) (a' := ?_) #[true, true, true, true, true, true, true, true, true, true, true, true, true, true, true, true, true, true, true, true, true, true, false] rfl rfl (by kernel_rfl) (fun _ _ _ h => h) (Or.inl ⟨by rfl, ?_⟩) ?_ ?_
      rotate_left
      · intro w'
        go_simp
        with_reducible rfl
      rotate_left
      · simp only [Act.put, List.setIfInBounds_toArray, List.set_cons_zero, List.set_cons_succ, i64_w, i32_w]
        rfl
      refine pure_ (i := 22) (N := some 68) (v := ?_) (a' := ?_) #[true, true, true, true, true, true, true, true, true, true, true, true, true, true, true, true, true, true, true, true, true, true, true] rfl rfl (by kernel_rfl) (fun _ _ _ h => h) (Or.inl ⟨by rfl, ?_⟩) ?_ ?_
      rotate_left
      · intro w'
        go_simp
        with_reducible rfl
      rotate_left
      · simp only [Act.put, List.setIfInBounds_toArray, List.set_cons_zero, List.set_cons_succ, i64_w, i32_w]
        rfl
      refine done_ (by kernel_rfl) ?_
      clear m0 m1 m2 n0 n1 n2 o0 o1 o2 hcc HPA HPB HSW HDA HWE HBD HP1 HP2 HY1 HY2 HY3 HY4
      clear hx1 hx2 hx3 hx4 hx5
      clear hHeld
      have HR8 := Hd.mk (HR7.out.below HY5.out)
      have HA8 := Hd.mk (HA7.out.below HY5.out)
      have HBv8 := Hd.mk (HBv7.out.below HY5.out)
      have HW8 := Hd.mk (HWa.out.below HY5.out)
      have HG88 := Hd.mk (blk_below HG87.out HY5.out)
      have HG108 := Hd.mk (blk_below HG107.out HY5.out)
      have HG128 := Hd.mk (blk_below HG12.out HY5.out)
      have HB8 := Hd.mk (below_step HB7.out HY5.out)
      have hszy := HY5.out.size
      clear HR7 HA7 HBv7 HWa HG87 HG107 HG12 HB7 HY5
      have m0 := blk_cell HG88.out 0
      have m1 := blk_cell HG88.out 1
      have m2 := blk_cell HG88.out 2
      simp at m0 m1 m2
      go_wp2_with fail
      have hsp := spoil_c HA8.out.s HA8.out.d HA8.out.x HA8.out.ne (by rw [HAV.out]; have := HLN.out.1; exact this) (by rw [HAV.out]; have := HLN.out.2.1; show jd.length ≤ _; omega) (by rw [HAV.out]; have := HLN.out.2.2; show jx.length ≤ _; omega)
      have HUA : Hd (∀ k, (av.s.ownBlock = some k ∨ av.d.ownBlock = some k ∨ av.x.ownBlock = some k) → av.B k) := ⟨fun k hk => hk⟩
      rw [HAV.out] at hsp
      simp only at hsp
      refine hsp.mono ?_
      clear hsp m0 m1 m2
      rintro e z1 ⟨rfl, hu⟩
      have HU : Hd (Upd av.B y5 z1) := ⟨by rw [HAV.out]; exact hu⟩
      clear hu HUA
      have HB9 := Hd.mk (HB8.out.trans (HU.out.below HB8.out.size (fun k hk hs => by have := HAb.out k hs; omega)))
      have HRw9 := Hd.mk (own_upd HR8.out.row HU.out (fun k hk => HA8.out.not43 HR8.out.row k hk))
      have HE9 : Hd (∀ a ∈ l, WvO z1 w.heap.size a) := ⟨fun a ha => (HR8.out.el a ha).upd HU.out (fun k hk hs => by have := HRlt.out a ha k hk; have := HAb.out k hs; omega)⟩
      have HDIS := Hd.mk HR8.out.dis
      have HBv9 := Hd.mk (HBv8.out.upd HU.out (fun k hk hs => by have := HBb.out k hk; have := HAlt.out k hs; omega))
      have HW9 := Hd.mk (HW8.out.upd HU.out (fun k hk hs => by have := HAlt.out k hs; omega))
      have HG109 := Hd.mk (HU.out.blk HG108.out (HA8.out.notblk HG108.out (by decide) (by decide)))
      have HG129 := Hd.mk (HU.out.blk HG128.out (HA8.out.notblk HG128.out (by decide) (by decide)))
      rw [HL.out.2] at HRw9
      have hN0 : (js.length : Int) + jd.length + jx.length + 21 ≤ 400000000000000 := by have := HLN.out; omega
      clear HR8 HA8 HBv8 HW8 HG88 HG108 HG128 HB8 HU HAb HAV
      go_wp2
      go_loopg [14, 73] i (fun k v14 v73 W => ∃ (j : Nat) (N : Int), v14 = .int .i64 N ∧ v73 = .int .i64 j ∧ j + k = i ∧ Hd (21 ≤ N ∧ N ≤ 400000000000000 + 4000000 * (j : Int)) ∧ Hd (W.ownsRow w.heap.size 43 4 (.slice Ag i cg) i (cellsW l)) ∧ Hd (∀ a ∈ l.drop j, WvO W w.heap.size a) ∧ Hd (WvO W w3.heap.size bv) ∧ Hd (WantR W w5.heap.size C0 k0 C1 k1 C2 k2 js jd jx) ∧ Hd (W.heap[w4.heap.size]? = some (.cells #[.slice Bs js.length bbs, .slice Bd jd.length bbd, .slice Bx jx.length bbx] 29 (0, 0))) ∧ Hd (W.heap[w6.heap.size]? = some (.cells #[.slice C0 js.length k0, .slice C1 jd.length k1, .slice C2 jx.length k2] 26 (0, 0))) ∧ Hd (Below w.heap.size w W))
      case atStart => exact ⟨0, _, rfl, rfl, by omega, ⟨by omega⟩, HRw9, ⟨fun a ha => HE9.out a (by simpa using ha)⟩, HBv9, HW9, HG109, HG129, HB9⟩
      case round =>
        clear HRw9 HE9 HBv9 HW9 HG109 HG129 HB9 hN0
        obtain ⟨j, N, rfl, rfl, hjk, HN, HRw, HE, HBv, HW, HG10, HG12, HB⟩ := hrel
        have hn1 := HN.out.1
        have hn2 := HN.out.2
        rcases gk with _ | q
        · have hlt : decide ((j : Int) < (i : Int)) = false := decide_eq_false (by omega)
          have hge : decide (N ≥ 21) = true := decide_eq_true hn1
          go_wp2
          have n0 := blk_cell HG10.out 0
          have n1 := blk_cell HG10.out 1
          have n2 := blk_cell HG10.out 2
          have o0 := blk_cell HG12.out 0
          have o1 := blk_cell HG12.out 1
          have o2 := blk_cell HG12.out 2
          simp at n0 n1 n2 o0 o1 o2
          have hB := HBv.out
          rw [HBV.out] at hB
          have HPB : Hd (∀ W, Below wr.heap.size wr W → Calls Try.prog 17 #[.agg #[.slice Bs js.length bbs, .slice Bd jd.length bbd, .slice Bx jx.length bbx]] W fun e w' => ∃ B b, e = .returned (.agg #[.slice B js.length b, .slice Bd jd.length bbd, .slice Bx jx.length bbx]) ∧ (Kd.C k81 w' B js.length (js.map t81) ∧ js.length ≤ b) ∧ Below W.heap.size W w') := ⟨fun W hW => plain_r (Kd.C_below (hB.s.C82 rfl) hW) (by have := HLN.out.1; omega)⟩
          have HDB : Hd (∀ W, Below wr.heap.size wr W → (Kd.int .u8).C W Bd jd.length jd ∧ (Kd.int .u8).C W Bx jx.length jx) := ⟨fun W hW => ⟨Kd.C_below (own_C8 hB.d) hW, Kd.C_below (own_C8 hB.x) hW⟩⟩
          have HWE : Hd (∀ W, Below wr.heap.size wr W → EdR W C0 k0 js.length (js.map t81) C1 k1 jd.length jd C2 k2 jx.length jx) := ⟨fun W hW => (HW.out.below hW).e⟩
          have HBD := Hd.mk (Below.drew' wr)
          clear hB
          refine start_ (n := 12) (S := fun w' => w'.cell? ⟨w4.heap.size, 0, none⟩ = some (.slice Bs js.length bbs) ∧ w'.cell? ⟨w4.heap.size, 1, none⟩ = some (.slice Bd jd.length bbd) ∧ w'.cell? ⟨w4.heap.size, 2, none⟩ = some (.slice Bx jx.length bbx) ∧ w'.cell? ⟨w6.heap.size, 0, none⟩ = some (.slice C0 js.length k0) ∧ w'.cell? ⟨w6.heap.size, 1, none⟩ = some (.slice C1 jd.length k1) ∧ w'.cell? ⟨w6.heap.size, 2, none⟩ = some (.slice C2 jx.length k2)) (ds := []) #[false, false, false, false, false, false, false, false, false, false, false, false] (by kernel_rfl) rfl rfl ⟨n0, n1, n2, o0, o1, o2⟩ (fun hHeld => ?_)
          refine take_ (i := 0) (N := some 85) (v := ?_) (a' := ?_) #[true, false, false, false, false, false, false, false, false, false, false, false] rfl rfl (by kernel_rfl) (fun _ _ _ h => h) (Or.inl ⟨by rfl, ?_⟩) hHeld ?_ ?_
          rotate_left
          · rintro w' ⟨s0, s1, s2, s3, s4, s5⟩
            go_simp
            with_reducible rfl
          rotate_left
          · simp only [Act.put, List.setIfInBounds_toArray, List.set_cons_zero, List.set_cons_succ, i64_w, i32_w]
            rfl
          refine take_ (i := 2) (N := some 87) (v := ?_) (a' := ?_) #[true, false, true, false, false, false, false, false, false, false, false, false] rfl rfl (by kernel_rfl) (fun _ _ _ h => h) (Or.inl ⟨by rfl, ?_⟩) hHeld ?_ ?_
          rotate_left
          · rintro w' ⟨s0, s1, s2, s3, s4, s5⟩
            go_simp
            with_reducible rfl
          rotate_left
          · simp only [Act.put, List.setIfInBounds_toArray, List.set_cons_zero, List.set_cons_succ, i64_w, i32_w]
            rfl
          refine one_ (i := 1) (N := some 86) #[true, true, true, false, false, false, false, false, false, false, false, false] rfl rfl (by kernel_rfl) (by decide) (fun K hK => ?_)
          refine goes_ Try.func17 (by kernel_rfl) rfl #[.agg #[.slice Bs js.length bbs, .slice Bd jd.length bbd, .slice Bx jx.length bbx]] (by rfl) rfl rfl (by simp only [List.map_toArray, List.map_cons, List.map_nil]; rfl) ?_
          with_reducible refine (HPB.out _ HBD.out).mono ?_
          rintro e y1 ⟨P1, p1, rfl, hP1, hy1⟩
          refine ⟨_, rfl, ?_⟩
          have HY1 := Hd.mk (below_step HBD.out hy1)
          have HP1 := Hd.mk hP1
          have hx1 := HY1.out
          clear hy1 hP1
          refine hK.out _ _ ⟨pw_cell_below hx1 n0, pw_cell_below hx1 n1, pw_cell_below hx1 n2, pw_cell_below hx1 o0, pw_cell_below hx1 o1, pw_cell_below hx1 o2⟩ (fun hHeld => ?_)
          clear hK K
          refine norm_ (a' := ?_) ?_ ?_
          rotate_left
          · show Act.put _ (some 86) _ = _
            simp only [Act.put, List.setIfInBounds_toArray, List.set_cons_zero, List.set_cons_succ, i64_w, i32_w]
            rfl
          refine one_ (i := 3) (N := some 88) #[true, true, true, true, false, false, false, false, false, false, false, false] rfl rfl (by kernel_rfl) (by decide) (fun K hK => ?_)
          refine goes_ Try.func16 (by kernel_rfl) rfl #[.agg #[.slice P1 js.length p1, .slice Bd jd.length bbd, .slice Bx jx.length bbx], .agg #[.slice C0 js.length k0, .slice C1 jd.length k1, .slice C2 jx.length k2]] (by rfl) rfl rfl (by simp only [List.map_toArray, List.map_cons, List.map_nil]; rfl) ?_
          with_reducible refine (same17_c ⟨HP1.out.1, (HDB.out _ HY1.out).1, (HDB.out _ HY1.out).2, HP1.out.2⟩ (HWE.out _ HY1.out) hjl).mono ?_
          rintro e y2 ⟨rfl, hy2⟩
          refine ⟨_, rfl, ?_⟩
          have HY2 := Hd.mk (below_step HY1.out hy2)
          have hx2 := HY2.out
          clear hy2
          refine hK.out _ _ ⟨pw_cell_below hx2 n0, pw_cell_below hx2 n1, pw_cell_below hx2 n2, pw_cell_below hx2 o0, pw_cell_below hx2 o1, pw_cell_below hx2 o2⟩ (fun hHeld => ?_)
          clear hK K
          refine norm_ (a' := ?_) ?_ ?_
          rotate_left
          · show Act.put _ (some 88) _ = _
            simp only [Act.put, List.setIfInBounds_toArray, List.set_cons_zero, List.set_cons_succ, i64_w, i32_w]
            rfl
          refine pure_ (i := 4) (N := some 89) (v := ?_) (a' := ?_) #[true, true, true, true, true, false, false, false, false, false, false, false] rfl rfl (by kernel_rfl) (fun _ _ _ h => h) (Or.inl ⟨by rfl, ?_⟩) ?_ ?_
          rotate_left
          · intro w'
            go_simp
            with_reducible rfl
          rotate_left
          · simp only [Act.put, List.setIfInBounds_toArray, List.set_cons_zero, List.set_cons_succ, i64_w, i32_w]
            rfl
          refine pure_ (i := 5) (N := some 90) (v := ?_) (a' := ?_) #[true, true, true, true, true, true, false, false, false, false, false, false] rfl rfl (by kernel_rfl) (fun _ _ _ h => h) (Or.inl ⟨by rfl, ?_⟩) ?_ ?_
          rotate_left
          · intro w'
            go_simp
            with_reducible rfl
          rotate_left
          · simp only [Act.put, List.setIfInBounds_toArray, List.set_cons_zero, List.set_cons_succ, i64_w, i32_w]
            rfl
          refine pure_ (i := 6) (N := some 91) (v := ?_) (a' := ?_) #[true, true, true, true, true, true, true, false, false, false, false, false] rfl rfl (by kernel_rfl) (fun _ _ _ h => h) (Or.inl ⟨by rfl, ?_⟩) ?_ ?_
          rotate_left
          · intro w'
            go_simp
            with_reducible rfl
          rotate_left
          · simp only [Act.put, List.setIfInBounds_toArray, List.set_cons_zero, List.set_cons_succ, i64_w, i32_w]
            rfl
          refine pure_ (i := 7) (N := some 92) (v := ?_) (a' := ?_) #[true, true, true, true, true, true, true, true, false, false, false, false] rfl rfl (by kernel_rfl) (fun _ _ _ h => h) (Or.inl ⟨by rfl, ?_⟩) ?_ ?_
          rotate_left
          · intro w'
            go_simp
            with_reducible rfl
          rotate_left
          · simp only [Act.put, List.setIfInBounds_toArray, List.set_cons_zero, List.set_cons_succ, i64_w, i32_w]
            rfl
          refine pure_ (i := 8) (N := some 93) (v := ?_) (a' := ?_) #[true, true, true, true, true, true, true, true, true, false, false, false] rfl rfl (by kernel_rfl) (fun _ _ _ h => h) (Or.inl ⟨by rfl, ?_⟩) ?_ ?_
          rotate_left
          · intro w'
            go_simp
            with_reducible rfl
          rotate_left
          · simp only [Act.put, List.setIfInBounds_toArray, List.set_cons_zero, List.set_cons_succ, i64_w, i32_w]
            rfl
          refine one_ (i := 9) (N := some 94) #[true, true, true, true, true, true, true, true, true, true, false, false] rfl rfl (by kernel_rfl) (by decide) (fun K hK => ?_)
          refine goes_ Try.func11 (by kernel_rfl) rfl #[] (by rfl) rfl rfl (by simp only [List.map_toArray, List.map_nil]) ?_
          refine (lives_c _).mono ?_
          rintro e y3 ⟨rfl, hy3⟩
          refine ⟨_, rfl, ?_⟩
          have HY3 := Hd.mk (below_step HY2.out hy3)
          have hx3 := HY3.out
          refine hK.out _ _ ⟨pw_cell_below hx3 n0, pw_cell_below hx3 n1, pw_cell_below hx3 n2, pw_cell_below hx3 o0, pw_cell_below hx3 o1, pw_cell_below hx3 o2⟩ (fun hHeld => ?_)
          clear hK K
          refine norm_ (a' := ?_) ?_ ?_
          rotate_left
          · show Act.put _ (some 94) _ = _
            simp only [Act.put, List.setIfInBounds_toArray, List.set_cons_zero, List.set_cons_succ, i64_w, i32_w]
            rfl
          refine pure_ (i := 10) (N := some 95) (v := ?_) (a' := ?_) #[true, true, true, true, true, true, true, true, true, true, true, false] rfl rfl (by kernel_rfl) (fun _ _ _ h => h) (Or.inl ⟨by rfl, ?_⟩) ?_ ?_
          rotate_left
          · intro w'
            go_simp
            with_reducible rfl
          rotate_left
          · simp only [Act.put, List.setIfInBounds_toArray, List.set_cons_zero, List.set_cons_succ, i64_w, i32_w]
            rfl
          refine pure_ (i := 11) (N := some 4) (v := ?_) (a' := ?_) #[true, true, true, true, true, true, true, true, true, true, true, true] rfl rfl (by kernel_rfl) (fun _ _ _ h => h) (Or.inl ⟨by rfl, ?_⟩) ?_ ?_
          rotate_left
          · intro w'
            go_simp
            with_reducible rfl
          rotate_left
          · simp only [Act.put, List.setIfInBounds_toArray, List.set_cons_zero, List.set_cons_succ, i64_w, i32_w]
            rfl
          refine done_ (by kernel_rfl) ?_
          clear hHeld
          go_wp2
          go_ret
          exact ⟨by simp, below_step HB.out HY3.out⟩
        · have hlt : decide ((j : Int) < (i : Int)) = true := decide_eq_true (by omega)
          have hng : decide ((0 : Int) ≤ (j : Int)) = true := decide_eq_true (by omega)
          have hji : j < i := by omega
          have hjl2 : j < l.length := by rw [HL.out.2]; exact hji
          have hdr : l.drop j = l[j] :: l.drop (j + 1) := List.drop_eq_getElem_cons hjl2
          obtain ⟨ad0, hAg, hcell⟩ := row_cells HRw.out (by omega : 0 < i)
          subst hAg
          have hget : l[j]? = some l[j] := List.getElem?_eq_getElem hjl2
          have hyX : l[j].y ∈ X := by rw [← HLX.out]; exact List.mem_map.2 ⟨_, List.getElem_mem hjl2, rfl⟩
          have hbd := (HXE.out _ hyX).1
          have hO : WvO wr w.heap.size l[j] := HE.out _ (by rw [hdr]; exact List.mem_cons_self)
          have hlt9 := HRlt.out l[j] (List.getElem_mem hjl2)
          have hpw := HDIS.out.drop (i := j)
          rw [hdr] at hpw
          have hpw1 := (List.pairwise_cons.1 hpw).1
          have hE2 : ∀ a ∈ l.drop (j + 1), WvO wr w.heap.size a := fun a ha => HE.out a (by rw [hdr]; exact List.mem_cons_of_mem _ ha)
          obtain ⟨a, ha⟩ : ∃ a, l[j] = a := ⟨_, rfl⟩
          rw [ha] at hget hbd hO hlt9 hpw1
          clear hpw hdr ha hyX hjl2
          obtain ⟨sv, dv, xv, yv⟩ := a
          obtain ⟨S0, s0, e0⟩ := hO.s.form rfl
          obtain ⟨D0, d0, e1⟩ := own_slice hO.d
          obtain ⟨X0, xx0, e2⟩ := own_slice hO.x
          simp only at e0 e1 e2 hbd
          subst e0 e1 e2
          have x1 := hcell _ _ (cellsW_at l j _ hget 1 _ rfl)
          have x2 := hcell _ _ (cellsW_at l j _ hget 2 _ rfl)
          have x3 := hcell _ _ (cellsW_at l j _ hget 3 _ rfl)
          rw [add_field _ _ 1 (by omega)] at x1
          rw [add_field _ _ 2 (by omega)] at x2
          rw [add_field _ _ 3 (by omega)] at x3
          have HO := Hd.mk hO
          have HB3 := Hd.mk hbd
          have HPW := Hd.mk hpw1
          have HE2 := Hd.mk hE2
          have HLT := Hd.mk hlt9
          clear hO hbd hpw1 hE2 hlt9 hcell hget HE
          go_wp2_with fail
          have hsp := spoil_c HO.out.s HO.out.d HO.out.x HO.out.ne (by have := HB3.out.1; show yv.f1.f0.length ≤ _; omega) (by have := HB3.out.2.1; show yv.f1.f1.length ≤ _; omega) (by have := HB3.out.2.2; show yv.f1.f2.length ≤ _; omega)
          simp only at hsp
          refine hsp.mono ?_
          clear hsp
          rintro e z2 ⟨rfl, hu⟩
          have HU : Hd (Upd (Wv.B ⟨.slice S0 yv.f1.f0.length s0, .slice D0 yv.f1.f1.length d0, .slice X0 yv.f1.f2.length xx0, yv⟩) wr z2) := ⟨hu⟩
          have HB9 := Hd.mk (HB.out.trans (HU.out.below HB.out.size (fun k hk hs => by have := HO.out.base k hs; omega)))
          have HRw9 := Hd.mk (own_upd HRw.out HU.out (fun k hk => HO.out.not43 HRw.out k hk))
          have HE9 : Hd (∀ a ∈ l.drop (j + 1), WvO z2 w.heap.size a) := ⟨fun a ha => (HE2.out a ha).upd HU.out (fun k hk hs => HPW.out a ha k hs hk)⟩
          have HBv9 := Hd.mk (HBv.out.upd HU.out (fun k hk hs => by have := HBb.out k hk; have := HLT.out k hs; omega))
          have HW9 := Hd.mk (HW.out.upd HU.out (fun k hk hs => by have := HLT.out k hs; omega))
          have HG109 := Hd.mk (HU.out.blk HG10.out (HO.out.notblk HG10.out (by decide) (by decide)))
          have HG129 := Hd.mk (HU.out.blk HG12.out (HO.out.notblk HG12.out (by decide) (by decide)))
          have hb1 := HB3.out.1
          have hb2 := HB3.out.2.1
          have hb3 := HB3.out.2.2
          clear hu HU HO HPW HE2 HRw HBv HW HG10 HG12 HB x1 x2 x3
          go_wp2
          go_roundg q
          case measure => omega
          case rel => exact ⟨j + 1, N + ((yv.f1.f0.length : Int) + yv.f1.f1.length + yv.f1.f2.length + 21), by go_num, by go_num, by omega, ⟨by omega⟩, HRw9, HE9, HBv9, HW9, HG109, HG129, HB9⟩
    · have hlt : decide ((i : Int) < (n : Int)) = true := decide_eq_true (by omega)
      have hng : decide ((0 : Int) ≤ (i : Int)) = true := decide_eq_true (by omega)
      have hin : i < n := by omega
      obtain ⟨ad, A1, a1, A2, a2, A3, a3, e1, x0, x1, x2, x3, l1, g1', l2, g2', l3, g3'⟩ := at_T45 (Kd.C_below HC.out HB.out) (i : Int) (by omega) (by omega)
      subst e1
      have hLi : i < L.length := by rw [HX.out.2.2.2]; exact hin
      have hge : rd_T45 L (i : Int) = L[i] := by simp [rd_T45, List.getD_eq_getElem?_getD, List.getElem?_eq_getElem hLi]
      have hle := HLE.out L[i] (List.getElem_mem hLi)
      have htk : X.take (i + 1) = X.take i ++ [from45 L[i]] := by
        rw [← HX.out.1, List.take_succ_eq_append_getElem (by rw [List.length_map]; exact hLi), List.getElem_map]
      rw [hge] at x0 x1 x2 x3 l1 g1' l2 g2' l3 g3'
      obtain ⟨⟨p, ⟨st, dl, xl⟩⟩, hz⟩ : ∃ z, L[i] = z := ⟨_, rfl⟩
      rw [hz] at x0 x1 x2 x3 l1 g1' l2 g2' l3 g3' hle htk
      simp only at x0 x1 x2 x3 l1 g1' l2 g2' l3 g3' hle
      rw [Int.toNat_natCast] at x0 x1 x2 x3
      obtain ⟨q0, q1, q2, _⟩ := hle
      obtain ⟨ns, hns⟩ : ∃ k, st.length = k := ⟨_, rfl⟩
      obtain ⟨nd, hnd⟩ : ∃ k, dl.length = k := ⟨_, rfl⟩
      obtain ⟨nx, hnx⟩ : ∃ k, xl.length = k := ⟨_, rfl⟩
      rw [hns] at x1 l1 g1' q0
      rw [hnd] at x2 l2 g2' q1
      rw [hnx] at x3 l3 g3' q2
      have hba := (Below.refl wr.heap.size wr).alloc (Nat.le_refl _) (.cells #[.int .i64 p, .slice A1 ns a1, .slice A2 nd a2, .slice A3 nx a3] 45)
      have hfc := face_own (pos := p) (Kd.C_below g1' hba) l1 (Kd.C_below g2' hba) l2 (Kd.C_below g3' hba) l3 q0 q1 q2
      have HFC := Hd.mk hfc
      have HBA := Hd.mk hba
      have HTK := Hd.mk htk
      clear hge hz hns hnd hnx l1 g1' l2 g2' l3 g3' hfc hba htk hLi
      go_wp2_with fail
      refine HFC.out.mono ?_
      rintro e w2 ⟨B0, b0, B1, b1, B2, b2, rfl, hO, hb2⟩
      have hb3 := below_step HBA.out hb2
      have hb4 := hb3.alloc hb3.size (.cells #[.int .i64 p, .slice B0 ns b0, .slice B1 nd b1, .slice B2 nx b2] 43)
      have hb24 := (Below.refl w2.heap.size w2).alloc (Nat.le_refl _) (.cells #[.int .i64 p, .slice B0 ns b0, .slice B1 nd b1, .slice B2 nx b2] 43)
      obtain ⟨v', w', hrun, hro, hgr⟩ := RowO.push (HR.out.below hb4) (hO.below hb24) (Nat.le_trans HB.out.size HBA.out.size) (fun b hb k hk => Nat.lt_of_lt_of_le (HR.out.lt b hb k hk) HBA.out.size) rfl rfl rfl (Nat.le_trans HB.out.size hb4.size) (blk_new w2 _) (by rw [HL.out.2]; omega)
      have hbf := below_step HB.out hb4
      have HB5 := Hd.mk (hbf.grown hgr hbf.size (own_base HR.out.row))
      have HR5 := Hd.mk hro
      have HL5 : Hd ((l ++ [(⟨.slice B0 ns b0, .slice B1 nd b1, .slice B2 nx b2, from45 ⟨p, ⟨st, dl, xl⟩⟩⟩ : Wv)]).map Wv.y = X.take (i + 1) ∧ (l ++ [(⟨.slice B0 ns b0, .slice B1 nd b1, .slice B2 nx b2, from45 ⟨p, ⟨st, dl, xl⟩⟩⟩ : Wv)]).length = i + 1) := ⟨by rw [List.map_append, HL.out.1, HTK.out, List.length_append, HL.out.2]; exact ⟨rfl, rfl⟩⟩
      clear hO hb2 hb3 hb4 hb24 hro hgr hbf HR HL HB HFC HBA
      go_wp2
      clear hrun
      go_roundg g1
      case measure => omega
      case rel => exact ⟨i + 1, _, by go_num, by omega, HR5, HL5, HB5⟩
end Go.Proofs.Ytinlfoblpgpikaa
